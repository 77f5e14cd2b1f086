import Derived.Test.YtemomocmfggiaaaGreatDoorZAU6
set_option linter.unusedSimpArgs false
set_option linter.unusedVariables false
namespace Go.Proofs.YtemomocmfggiaaaGreatDoor
open Go.RowKit
inductive VK where
 | int (k:IntKind)
 | bool
 | bit
 | nat
def vw (b:Bool):Int:=match b with|true=>1|false=>0
def DT (op:BinOp) (k:IntKind) (x y:Int):Int :=
 let a:=BitVec.ofInt k.bits x
 let b:=BitVec.ofInt k.bits y
 k.wrap (match op with | .and=>a&&&b | .or=>a|||b | .xor=>a ^^^ b|_=>a &&& ~~~b).toNat
theorem acg (op:BinOp) (k:IntKind) (x y:Int):Ko op k x y = .int k (DT op k x y):=rfl
def vX (op:BinOp) (k:IntKind) (a b:Int):Int:=match op with
 | .shl=>k.wrap (a*2^min b.toNat k.bits)
 | .shr=>a.fdiv (2^min b.toNat k.bits)
 | .add=>k.wrap (a+b)
 | .sub=>k.wrap (a-b)
 | .mul=>k.wrap (a*b)
 | .quo=>k.wrap (a.tdiv b)
 | .rem=>a.tmod b
 | .and=>DT .and k a b
 | .or=>DT .or k a b
 | .xor=>DT .xor k a b
 | .andNot=>DT .andNot k a b
 | .eql=>vw (a==b)
 | .neq=>vw (a != b)
 | .lss=>vw (decide (a<b))
 | .leq=>vw (decide (a≤b))
 | .gtr=>vw (decide (a>b))
 | .geq=>vw (decide (a≥b))
def ach:Nat→Nat→List Nat
 | 0,_=>[]
 | f+1,n=>match n with|0=>[]|m+1=>(m+1)%4294967296::ach f ((m+1)/4294967296)
def aci (n:Nat):List Nat:=ach n n
def Fe (n:Nat):Nat:=(aci n).length
inductive X where
 | lit (n:Int)
 | var (k:VK) (i:Nat)
 | bin (op:BinOp) (k:IntKind) (a b:X)
 | conv (k:IntKind) (a:X)
 | com (k:IntKind) (a:X)
 | not (a:X)
 | and (a b:X)
 | beq (a b:X)
 | min (a b:X)
 | max (a b:X)
 | ite (c a b:X)
 | dlen (a:X)
abbrev vS:=Nat→Int
def VK.norm:VK→Int→Int
 | .int k,n=>k.wrap n
 | .bool,n=>vw (n != 0)
 | .bit,n=>vw (n != 0)
 | .nat,n=>Int.ofNat n.toNat
def Qi (k:IntKind) (n:Int):Int:=DT .xor k (if k.signed then -1 else k.max) n
def X.den (s:vS):X→Int
 | .lit n=>n
 | .var k i=>k.norm (s i)
 | .bin op k a b=>vX op k (a.den s) (b.den s)
 | .conv k a=>k.wrap (a.den s)
 | .com k a=>Qi k (a.den s)
 | .not a=>vw (!(a.den s != 0))
 | .and a b=>vw (a.den s != 0&&b.den s != 0)
 | .beq a b=>vw ((a.den s != 0)==(b.den s != 0))
 | .min a b=>if b.den s<a.den s then b.den s else a.den s
 | .max a b=>if b.den s>a.den s then b.den s else a.den s
 | .ite c a b=>if c.den s=0 then b.den s else a.den s
 | .dlen a=>Int.ofNat (Fe (a.den s).toNat)
theorem yN (b:Bool):(vw b != 0)=b:=by cases b<;>rfl
def yO {β:Sort _} (n:Nat) (k:Nat→β):β:=match n with|0=>k 0|m+1=>k (Nat.succ m)
theorem yw {β:Sort _} (n:Nat) (k:Nat→β):yO n k=k n:=by cases n<;>rfl
def Ev {β:Sort _} (n:Int) (k:Int→β):β:=match n with | .ofNat m=>yO m fun m=>k (.ofNat m) | .negSucc m=>yO m fun m=>k (.negSucc m)
theorem Hy {β:Sort _} (n:Int) (k:Int→β):Ev n k=k n:=by cases n<;>simp[Ev,yw]
def F7 {α:Type} {β:Sort _} : List α→(List α→β)→β
 | [],k=>k []
 | a::l,k=>F7 l fun l'=>k (a::l')
theorem Ji {α:Type} {β:Sort _} : ∀ (l:List α) (k:List α→β),F7 l k=k l
 | [],k=>rfl
 | a::l,k=>by rw[F7,Ji l]
def yV {β:Sort _} (x:X) (k:X→β):β:=match x with
 | .lit n=>k (.lit n)
 | .var a b=>k (.var a b)
 | .bin o q a b=>k (.bin o q a b)
 | .conv q a=>k (.conv q a)
 | .com q a=>k (.com q a)
 | .not a=>k (.not a)
 | .and a b=>k (.and a b)
 | .beq a b=>k (.beq a b)
 | .min a b=>k (.min a b)
 | .max a b=>k (.max a b)
 | .ite c a b=>k (.ite c a b)
 | .dlen a=>k (.dlen a)
theorem akb {β:Sort _} (x:X) (k:X→β):yV x k=k x:=by cases x<;>rfl
def Ar:IntKind→Nat
 | .i8 | .u8=>256
 | .i16 | .u16=>65536
 | .i32 | .u32=>4294967296
 | .i64 | .u64=>18446744073709551616
def Hz:IntKind→Nat
 | .i8 | .u8=>128
 | .i16 | .u16=>32768
 | .i32 | .u32=>2147483648
 | .i64 | .u64=>9223372036854775808
theorem Wx (k:IntKind):(Ar k:Int)=2^k.bits:=by cases k<;>decide
theorem akc (k:IntKind):Ar k=2^k.bits:=by cases k<;>decide
theorem akd (k:IntKind):(Hz k:Int)=2^(k.bits-1):=by cases k<;>decide
theorem acj (k:IntKind):0<Ar k:=by cases k<;>decide
def xQ (k:IntKind) (n:Int):Nat:=match n with
 | .ofNat m=>m%Ar k
 | .negSucc m=>Ar k-1-m%Ar k
theorem Wy (k:IntKind) (n:Int):(xQ k n:Int)=n%2^k.bits:=by
 rw[← Wx]
 have:=acj k
 cases n with
 | ofNat m=>simp[xQ]
 | negSucc m =>
  have h:=Nat.mod_lt m this
  simp only[xQ]
  rw[Int.negSucc_emod _ (by omega)]
  have h2:((m:Int)%(Ar k:Int))=((m%Ar k:Nat):Int):=by simp
  omega
theorem Jj (k:IntKind) (n:Int):(BitVec.ofInt k.bits n).toNat=xQ k n:=by
 rw[BitVec.toNat_ofInt]
 have:=Wy k n
 have h2:((2^k.bits:Nat):Int)=2^k.bits:=by simp
 rw[h2,← this];simp
def ack (k:IntKind) (r:Nat):Int:=match k.signed with
 | true=>match Nat.ble (Hz k) r with|true=>Int.subNatNat r (Ar k)|false=>.ofNat r
 | false=>.ofNat r
def yX (k:IntKind) (n:Int):Int:=ack k (xQ k n)
theorem xR (k:IntKind) (n:Int):yX k n=k.wrap n:=by
 unfold yX ack IntKind.wrap
 have h:=Wy k n
 rw[← Wx,← akd] at *
 rw[← h]
 cases hs:k.signed with
 | false=>simp
 | true =>
  simp only[Bool.true_and]
  cases hb:Nat.ble (Hz k) (xQ k n) with
  | true =>
   have:Hz k≤xQ k n:=Nat.le_of_ble_eq_true hb
   rw[if_pos (by simp;omega),Int.subNatNat_eq_coe]
  | false =>
   have:¬ Hz k≤xQ k n:=fun e=>by rw[Nat.ble_eq_true_of_le e] at hb;cases hb
   rw[if_neg (by simp;omega)];rfl
def MK (n:Nat) (k:IntKind):Nat:=match Nat.ble n k.bits with|true=>n|false=>k.bits
theorem Wz (n:Nat) (k:IntKind):MK n k=min n k.bits:=by
 unfold MK
 cases h:Nat.ble n k.bits with
 | true=>have:=Nat.le_of_ble_eq_true h;simp;omega
 | false =>
  have:¬ n≤k.bits:=fun e=>by rw[Nat.ble_eq_true_of_le e] at h;cases h
  simp;omega
def yF:Int→Int→Bool
 | .ofNat m,.ofNat n=>Nat.beq m n
 | .negSucc m,.negSucc n=>Nat.beq m n
 | _,_=>false
def zS:Int→Int→Bool
 | .ofNat m,.ofNat n=>Nat.blt m n
 | .negSucc m,.negSucc n=>Nat.blt n m
 | .negSucc _,.ofNat _=>true
 | .ofNat _,.negSucc _=>false
theorem Di (a b:Int):yF a b=(a==b):=by
 cases a with
 | ofNat m=>cases b with
  | ofNat n =>
   simp only[yF]
   rw[Bool.eq_iff_iff,Nat.beq_eq,beq_iff_eq]
   exact⟨fun h=>by rw[h],fun h=>Int.ofNat.inj h⟩
  | negSucc n=>simp only[yF];rw[eq_comm,beq_eq_false_iff_ne];intro h;cases h
 | negSucc m=>cases b with
  | ofNat n=>simp only[yF];rw[eq_comm,beq_eq_false_iff_ne];intro h;cases h
  | negSucc n =>
   simp only[yF]
   rw[Bool.eq_iff_iff,Nat.beq_eq,beq_iff_eq]
   omega
theorem Cc (a b:Int):zS a b=decide (a<b):=by
 cases a<;>cases b<;>simp only[zS]<;>rw[Bool.eq_iff_iff]<;>simp[Nat.blt_eq]<;>omega
def Dj (b:Bool):Bool:=match b with|true=>false|false=>true
theorem Dk (b:Bool):Dj b = !b:=by cases b<;>rfl
def fold (op:BinOp) (k:IntKind) (a b:Int):Int:=match op with
 | .shl=>match a,b with
  | .ofNat m,.ofNat n=>yX k (.ofNat (Nat.shiftLeft m (MK n k)))
  | a,b=>vX .shl k a b
 | .shr=>match a,b with
  | .ofNat m,.ofNat n=>.ofNat (Nat.shiftRight m (MK n k))
  | a,b=>vX .shr k a b
 | .add=>yX k (Int.add a b)
 | .sub=>yX k (Int.sub a b)
 | .mul=>yX k (Int.mul a b)
 | .quo=>yX k (Int.tdiv a b)
 | .rem=>Int.tmod a b
 | .and=>yX k (.ofNat (Nat.land (xQ k a) (xQ k b)))
 | .or=>yX k (.ofNat (Nat.lor (xQ k a) (xQ k b)))
 | .xor=>yX k (.ofNat (Nat.xor (xQ k a) (xQ k b)))
 | .andNot=>yX k (.ofNat (Nat.land (xQ k a) (Ar k-1-xQ k b)))
 | .eql=>vw (yF a b)
 | .neq=>vw (Dj (yF a b))
 | .lss=>vw (zS a b)
 | .leq=>vw (Dj (zS b a))
 | .gtr=>vw (zS b a)
 | .geq=>vw (Dj (zS a b))
theorem HV (op:BinOp) (k:IntKind) (a b:Int):fold op k a b=vX op k a b:=by
 cases op
 case shl =>
  simp only[fold]
  split
  ·rename_i m n
   rw[xR,Wz]
   show k.wrap (Int.ofNat (m <<< _))=k.wrap (Int.ofNat m*2^min n k.bits)
   rw[Nat.shiftLeft_eq];congr 1
  ·rfl
 case shr =>
  simp only[fold]
  split
  ·rename_i m n
   rw[Wz]
   show Int.ofNat (m >>> _)=(Int.ofNat m).fdiv (2^min n k.bits)
   rw[Nat.shiftRight_eq_div_pow,Int.fdiv_eq_ediv_of_nonneg _ (Int.pow_nonneg (by decide))];simp
  ·rfl
 case add=>exact xR _ _
 case sub=>exact xR _ _
 case mul=>exact xR _ _
 case quo=>exact xR _ _
 case rem=>rfl
 case and=>simp only[fold,vX,DT];rw[xR,BitVec.toNat_and,Jj,Jj];rfl
 case or=>simp only[fold,vX,DT];rw[xR,BitVec.toNat_or,Jj,Jj];rfl
 case xor=>simp only[fold,vX,DT];rw[xR,BitVec.toNat_xor,Jj,Jj];rfl
 case andNot=>simp only[fold,vX,DT];rw[xR,BitVec.toNat_and,BitVec.toNat_not,Jj,Jj,← akc];rfl
 case eql=>simp only[fold,vX,Di]
 case neq=>simp only[fold,vX,Di,Dk,bne]
 case lss=>simp only[fold,vX,Cc]
 case leq=>simp only[fold,vX,Cc,Dk];congr 1;rw[Bool.eq_iff_iff];simp
 case gtr=>simp only[fold,vX,Cc,gt_iff_lt]
 case geq=>simp only[fold,vX,Cc,Dk];congr 1;rw[Bool.eq_iff_iff];simp
def WA:IntKind→IntKind→Bool
 | .u8,.u8=>true | .u8,.u16=>true | .u8,.u32=>true | .u8,.u64=>true | .u8,.i16=>true | .u8,.i32=>true | .u8,.i64=>true
 | .u16,.u16=>true | .u16,.u32=>true | .u16,.u64=>true | .u16,.i32=>true | .u16,.i64=>true
 | .u32,.u32=>true | .u32,.u64=>true | .u32,.i64=>true
 | .u64,.u64=>true
 | .i8,.i8=>true | .i8,.i16=>true | .i8,.i32=>true | .i8,.i64=>true
 | .i16,.i16=>true | .i16,.i32=>true | .i16,.i64=>true
 | .i32,.i32=>true | .i32,.i64=>true
 | .i64,.i64=>true
 | _,_=>false
theorem acl {a b:IntKind} (h:WA a b=true) (n:Int):b.wrap (a.wrap n)=a.wrap n:=by
 unfold IntKind.wrap IntKind.bits IntKind.signed
 cases a<;>cases b<;>first|(cases h;done)|(simp<;>(try split)<;>(try split)<;>omega)
def yP (op:BinOp) (k:IntKind) (a b:X):X:=match a,b with
 | .lit x,.lit y=>Ev (fold op k x y) .lit
 | a,b=>.bin op k a b
theorem Jk (s:vS) (op:BinOp) (k:IntKind) (a b:X):(yP op k a b).den s=vX op k (a.den s) (b.den s):=by
 unfold yP;split
 ·rw[Hy,X.den,HV];rfl
 ·rfl
def WB (k:IntKind) (a:X):X:=match a with
 | .lit x=>Ev (yX k x) .lit
 | .var (.int k') i=>match WA k' k with|true=>.var (.int k') i|false=>.conv k (.var (.int k') i)
 | a=>.conv k a
theorem ake (s:vS) (k:IntKind) (a:X):(WB k a).den s=k.wrap (a.den s):=by
 unfold WB;split
 ·rw[Hy,X.den,xR];rfl
 ·split
  ·rename_i h;exact(acl h _).symm
  ·rfl
 ·rfl
def SG (k:IntKind) (a:X):X:=match a with
 | .lit x=>Ev (fold .xor k (match k.signed with|true => -1|false=>.ofNat (Ar k-1)) x) .lit
 | a=>.com k a
theorem acm (s:vS) (k:IntKind) (a:X):(SG k a).den s=Qi k (a.den s):=by
 unfold SG;split
 ·rw[Hy,X.den,HV]
  unfold Qi vX IntKind.max
  cases hs:k.signed with
  | true=>simp[X.den]
  | false =>
   simp only[Bool.false_eq_true,if_false,X.den]
   have h1:=Wx k
   have h2:=acj k
   congr 1
   rw[← h1];simp;omega
 ·rfl
def vG (n:Int):Bool:=match n with | .ofNat 0=>false|_=>true
theorem zm (n:Int):vG n=(n != 0):=by
 unfold vG;split
 ·rfl
 ·rename_i h;rw[eq_comm,bne_iff_ne];intro e;exact h (by rw[e];rfl)
def mkNot (a:X):X:=match a with
 | .lit x=>.lit (vw (Dj (vG x)))
 | a=>.not a
theorem WC (s:vS) (a:X):(mkNot a).den s=vw (!(a.den s != 0)):=by
 unfold mkNot;split
 ·rw[X.den,Dk,zm];rfl
 ·rfl
def mkAnd (a b:X):X:=match a with
 | .lit x=>match vG x with
  | true=>match b with
   | .lit y=>.lit (vw (vG y))
   | b=>.and a b
  | false=>.lit 0
 | a=>.and a b
theorem akf (s:vS) (a b:X):(mkAnd a b).den s=vw (a.den s != 0&&b.den s != 0):=by
 unfold mkAnd;split
 ·rename_i x
  split
  ·rename_i hx
   rw[zm] at hx
   split
   ·rw[X.den,X.den,X.den,hx,zm];rfl
   ·rfl
  ·rename_i hx
   rw[zm] at hx
   simp only[X.den]
   rw[hx];rfl
 ·rfl
def SI (a b:X):X:=match a,b with
 | .lit x,.lit y=>.lit (vw (match vG x with|true=>vG y|false=>Dj (vG y)))
 | a,b=>.beq a b
theorem acn (s:vS) (a b:X):(SI a b).den s=vw ((a.den s != 0)==(b.den s != 0)):=by
 unfold SI;split
 ·rename_i x y
  simp only[X.den,zm,Dk]
  cases hx:(x != 0)<;>cases hy:(y != 0)<;>rfl
 ·rfl
def WE (a b:X):X:=match a,b with
 | .lit x,.lit y=>match zS y x with|true=>.lit y|false=>.lit x
 | a,b=>.min a b
theorem akg (s:vS) (a b:X):(WE a b).den s=if b.den s<a.den s then b.den s else a.den s:=by
 unfold WE;split
 ·rename_i x y
  show _=if y<x then y else x
  rw[Cc]
  by_cases h:y<x
  ·rw[if_pos h,decide_eq_true h];rfl
  ·rw[if_neg h,decide_eq_false h];rfl
 ·rfl
def SK (a b:X):X:=match a,b with
 | .lit x,.lit y=>match zS x y with|true=>.lit y|false=>.lit x
 | a,b=>.max a b
theorem aco (s:vS) (a b:X):(SK a b).den s=if b.den s>a.den s then b.den s else a.den s:=by
 unfold SK;split
 ·rename_i x y
  show _=if x<y then y else x
  rw[Cc]
  by_cases h:x<y
  ·rw[if_pos h,decide_eq_true h];rfl
  ·rw[if_neg h,decide_eq_false h];rfl
 ·rfl
def Kw (c a b:X):X:=match c with
 | .lit n=>match vG n with|true=>a|false=>b
 | c=>match a,b with
  | .lit x,.lit y=>match yF x y with|true=>.lit x|false=>.ite c (.lit x) (.lit y)
  | a,b=>.ite c a b
theorem Qj (s:vS) (c a b:X):(Kw c a b).den s=if c.den s=0 then b.den s else a.den s:=by
 unfold Kw;split
 ·rename_i n
  show _=if n=0 then b.den s else a.den s
  split
  ·rename_i h;rw[zm,bne_iff_ne] at h;rw[if_neg h]
  ·rename_i h;rw[zm,bne_eq_false_iff_eq] at h;rw[if_pos h]
 ·split
  ·rename_i x y
   split
   ·rename_i h
    rw[Di,beq_iff_eq] at h;subst h
    show x=if _ then x else x
    split<;>rfl
   ·rfl
  ·rfl
def WF (k:IntKind) (n:Int):Bool:=yF (yX k n) n
def zT:IntKind→IntKind→Bool
 | .i8,.i8=>true | .i16,.i16=>true | .i32,.i32=>true | .i64,.i64=>true
 | .u8,.u8=>true | .u16,.u16=>true | .u32,.u32=>true | .u64,.u64=>true
 | _,_=>false
theorem Be {a b:IntKind} (h:zT a b=true):a=b:=by cases a<;>cases b<;>first|rfl|cases h
def X.inK (k:IntKind):X→Bool
 | .lit n=>WF k n
 | .var (.int k') _=>WA k' k
 | .var .bit _=>zT k .u64
 | .bin op k' a b=>match op with
  | .add | .sub | .mul | .quo | .shl | .and | .or | .xor | .andNot=>zT k k'
  | .shr=>X.inK k a
  | .rem=>X.inK k a
  | _=>false
 | .conv k' _=>zT k k'
 | .com k' _=>zT k k'
 | .min a b=>match X.inK k a with|true=>X.inK k b|false=>false
 | .max a b=>match X.inK k a with|true=>X.inK k b|false=>false
 | .ite _ a b=>match X.inK k a with|true=>X.inK k b|false=>false
 | _=>false
theorem wrap_wrap (k:IntKind) (n:Int):k.wrap (k.wrap n)=k.wrap n:=by
 unfold IntKind.wrap IntKind.bits IntKind.signed
 cases k<;>simp<;>(try split)<;>(try split)<;>omega
theorem akh (k:IntKind) (n:Int) (m:Nat) (h:k.wrap n=n):k.wrap (n.fdiv (2^m))=n.fdiv (2^m):=by
 rw[Int.fdiv_eq_ediv_of_nonneg _ (Int.pow_nonneg (by decide))]
 have hp:(0:Int)<2^m:=Int.pow_pos (by decide)
 generalize (2:Int)^m=p at hp
 have h1:0≤n→0≤n/p∧n/p≤n:=fun hn=>⟨Int.ediv_nonneg hn (by omega),Int.ediv_le_self _ hn⟩
 have h2:n<0→n≤n/p∧n/p<0:=fun hn=>⟨by
  have h3:=Int.mul_ediv_add_emod n p
  have h4:=Int.emod_nonneg n (show p≠0 by omega)
  have h5:=Int.emod_lt_of_pos n hp
  have:n/p<0:=Int.ediv_neg_of_neg_of_pos hn hp
  have:p*(n/p)≤1*(n/p):=Int.mul_le_mul_of_nonpos_right (by omega) (by omega)
  apply Int.le_of_lt_add_one
  have h6:n<p*(n/p)+p:=by omega
  have h7:p*(n/p)+p≤(n/p)+1:=by
   have:p*(n/p+1)≤1*(n/p+1):=Int.mul_le_mul_of_nonpos_right (by omega) (by omega)
   rw[Int.mul_add,Int.mul_one] at this;omega
  omega,Int.ediv_neg_of_neg_of_pos hn hp⟩
 unfold IntKind.wrap IntKind.bits IntKind.signed at *
 cases k<;>simp at h ⊢ <;> (rcases Int.lt_or_le n 0 with hn|hn)<;>first
  | (have:=h2 hn;split at h<;>(try split)<;>omega)
  | (have:=h1 hn;split at h<;>(try split)<;>omega)
  | (have:=h2 hn;omega)
  | (have:=h1 hn;omega)
theorem aki (k:IntKind) (n m:Int) (h:k.wrap n=n):k.wrap (n.tmod m)=n.tmod m:=by
 have h1:0≤n→0≤n.tmod m∧n.tmod m≤n:=fun hn=>by
  obtain⟨a,rfl⟩:=Int.eq_ofNat_of_zero_le hn
  have:(a:Int).tmod m=((a%m.natAbs:Nat):Int):=by
   rcases Int.natAbs_eq m with e|e
   ·rw[e];simp only[Int.natAbs_natCast];rfl
   ·rw[e];simp only[Int.natAbs_neg,Int.natAbs_natCast,Int.tmod_neg];rfl
  rw[this]
  have:=Nat.mod_le a m.natAbs
  omega
 have h2:n<0→n≤n.tmod m∧n.tmod m≤0:=fun hn=>by
  obtain⟨a,ha⟩:=Int.eq_ofNat_of_zero_le (show 0 ≤ -n by omega)
  have hn2:n = -(a:Int):=by omega
  rw[hn2,Int.neg_tmod]
  have:(a:Int).tmod m=((a%m.natAbs:Nat):Int):=by
   rcases Int.natAbs_eq m with e|e
   ·rw[e];simp only[Int.natAbs_natCast];rfl
   ·rw[e];simp only[Int.natAbs_neg,Int.natAbs_natCast,Int.tmod_neg];rfl
  rw[this]
  have:=Nat.mod_le a m.natAbs
  omega
 generalize n.tmod m=r at *
 unfold IntKind.wrap IntKind.bits IntKind.signed at *
 cases k<;>simp at h ⊢ <;> (rcases Int.lt_or_le n 0 with hn|hn)<;>first
  | (have:=h2 hn;split at h<;>(try split)<;>omega)
  | (have:=h1 hn;split at h<;>(try split)<;>omega)
  | (have:=h2 hn;omega)
  | (have:=h1 hn;omega)
theorem X.inK_ok {k:IntKind} (s:vS):∀ {x:X},x.inK k=true→k.wrap (x.den s)=x.den s
 | .lit n,h=>by
  have h':WF k n=true:=h
  unfold WF at h'
  rw[Di,xR,beq_iff_eq] at h';exact h'
 | .var (.int k') i,h=>acl h _
 | .var .bool i,h=>by cases h
 | .var .nat i,h=>by cases h
 | .dlen a,h=>by cases h
 | .var .bit i,h=>by
  have:=Be (show zT k .u64=true from h);subst this
  simp only[X.den,VK.norm];cases (s i != 0)<;>rfl
 | .bin op k' a b,h=>by
  cases op<;>simp only[X.inK] at h<;>first
   | cases h
   | (have:=Be h;subst this;simp only[X.den,vX,DT];exact wrap_wrap _ _)
   | (simp only[X.den,vX];exact akh _ _ _ (X.inK_ok s h))
   | (simp only[X.den,vX];exact aki _ _ _ (X.inK_ok s h))
 | .conv k' a,h=>by have:=Be h;subst this;exact wrap_wrap _ _
 | .com k' a,h=>by have:=Be h;subst this;exact wrap_wrap _ _
 | .not a,h=>by cases h
 | .and a b,h=>by cases h
 | .beq a b,h=>by cases h
 | .min a b,h=>by
  simp only[X.inK] at h
  split at h
  ·rename_i h1
   simp only[X.den];split
   ·exact X.inK_ok s h
   ·exact X.inK_ok s h1
  ·cases h
 | .max a b,h=>by
  simp only[X.inK] at h
  split at h
  ·rename_i h1
   simp only[X.den];split
   ·exact X.inK_ok s h
   ·exact X.inK_ok s h1
  ·cases h
 | .ite c a b,h=>by
  simp only[X.inK] at h
  split at h
  ·rename_i h1
   simp only[X.den];split
   ·exact X.inK_ok s h
   ·exact X.inK_ok s h1
  ·cases h
def X.isBit:X→Bool
 | .lit n=>match yF n (.ofNat 0) with|true=>true|false=>yF n (.ofNat 1)
 | .var .bit _=>true
 | .ite _ a b=>match X.isBit a with|true=>X.isBit b|false=>false
 | _=>false
theorem X.isBit_ok (s:vS):∀ {x:X},x.isBit=true→x.den s=vw (x.den s != 0)
 | .lit n,h=>by
  simp only[X.isBit,Di] at h
  split at h
  ·rename_i h1;rw[beq_iff_eq] at h1;subst h1;rfl
  ·rw[beq_iff_eq] at h;subst h;rfl
 | .var .bit i,_=>by simp only[X.den,VK.norm];cases (s i != 0)<;>rfl
 | .var (.int _) i,h=>by simp[X.isBit] at h
 | .var .bool i,h=>by simp[X.isBit] at h
 | .var .nat i,h=>by simp[X.isBit] at h
 | .dlen a,h=>by simp[X.isBit] at h
 | .ite c a b,h=>by
  simp only[X.isBit] at h
  split at h
  ·rename_i h1
   simp only[X.den];split
   ·exact X.isBit_ok s h
   ·exact X.isBit_ok s h1
  ·cases h
 | .bin _ _ _ _,h=>by simp[X.isBit] at h
 | .conv _ _,h=>by simp[X.isBit] at h
 | .com _ _,h=>by simp[X.isBit] at h
 | .not _,h=>by simp[X.isBit] at h
 | .and _ _,h=>by simp[X.isBit] at h
 | .beq _ _,h=>by simp[X.isBit] at h
 | .min _ _,h=>by simp[X.isBit] at h
 | .max _ _,h=>by simp[X.isBit] at h
inductive vo (α:Type) where
 | leaf (a:α)
 | ite (c:X) (a b:vo α)
 | call (f:Nat) (args:List X) (base n:Nat) (t:vo α)
 | stuck (why:String)
abbrev yY:=Nat→List Int→List Int
def Ad (s:vS) (base:Nat):Nat→List Int
 | 0=>[]
 | n+1=>s base::Ad s (base+1) n
theorem HY (s:vS):∀ (n b:Nat),(Ad s b n).length=n
 | 0,_=>rfl
 | n+1,b=>by rw[Ad,List.length_cons,HY s n]
def Ky (Φ:yY) (s:vS) (f:Nat) (args:List X) (base n:Nat):Prop:=Ad s base n=Φ f (args.map (X.den s))
instance (Φ:yY) (s:vS) (f:Nat) (args:List X) (base n:Nat):Decidable (Ky Φ s f args base n):=inferInstanceAs (Decidable (_=_))
def vo.path {α:Type} (Φ:yY) (s:vS):vo α→Option α
 | .leaf a=>some a
 | .ite c a b=>if c.den s=0 then b.path Φ s else a.path Φ s
 | .call f args base n t=>if Ky Φ s f args base n then t.path Φ s else none
 | .stuck _=>none
def vo.bind {α β:Type} : vo α→(α→vo β)→vo β
 | .leaf a,f=>f a
 | .ite c a b,f=>.ite c (a.bind f) (b.bind f)
 | .call g args base n t,f=>.call g args base n (t.bind f)
 | .stuck w,_=>.stuck w
theorem vo.path_bind {α β:Type} (Φ:yY) (s:vS) (f:α→vo β):∀ t:vo α,(t.bind f).path Φ s=(t.path Φ s).bind fun a=>(f a).path Φ s
 | .leaf a=>rfl
 | .ite c a b=>by
  simp only[vo.bind,vo.path]
  split
  ·exact vo.path_bind Φ s f b
  ·exact vo.path_bind Φ s f a
 | .call g args base n t=>by
  simp only[vo.bind,vo.path]
  split
  ·exact vo.path_bind Φ s f t
  ·rfl
 | .stuck w=>rfl
theorem vo.path_bind_some {α β:Type} {Φ:yY} {s:vS} {f:α→vo β} {t:vo α} {b:β} (h:(t.bind f).path Φ s=some b):∃ a,t.path Φ s=some a∧(f a).path Φ s=some b:=by
 rw[vo.path_bind] at h
 cases ht:t.path Φ s with
 | none=>rw[ht] at h;cases h
 | some a=>rw[ht] at h;exact⟨a,rfl,h⟩
def ML {α:Type} (c:X) (a b:vo α):vo α:=match c with
 | .lit n=>match vG n with|true=>a|false=>b
 | c=>.ite c a b
theorem WG {α:Type} (Φ:yY) (s:vS) (c:X) (a b:vo α):(ML c a b).path Φ s=if c.den s=0 then b.path Φ s else a.path Φ s:=by
 unfold ML;split
 ·rename_i n
  show _=if n=0 then b.path Φ s else a.path Φ s
  split
  ·rename_i h;rw[zm,bne_iff_ne] at h;rw[if_neg h]
  ·rename_i h;rw[zm,bne_eq_false_iff_eq] at h;rw[if_pos h]
 ·rfl
open Go.RowKit
theorem wR {a b:Nat} : Nat.beq a b=true↔a=b:=by rw[Nat.beq_eq]
def WH:VK→VK→Bool
 | .int k,.int k'=>zT k k'
 | .bool,.bool=>true
 | .bit,.bit=>true
 | .nat,.nat=>true
 | _,_=>false
def Qk:BinOp→Nat
 | .add=>0 | .sub=>1 | .mul=>2 | .quo=>3 | .rem=>4 | .and=>5 | .or=>6 | .xor=>7 | .shl=>8 | .shr=>9 | .andNot=>10
 | .eql=>11 | .neq=>12 | .lss=>13 | .leq=>14 | .gtr=>15 | .geq=>16
def xD (a:Bool) (b:Bool):Bool:=match a with|true=>b|false=>false
def Au:X→X→Bool
 | .lit m,.lit n=>yF m n
 | .var k i,.var k' j=>xD (Nat.beq i j) (WH k k')
 | .bin o k a b,.bin o' k' a' b'=>xD (Nat.beq (Qk o) (Qk o')) (xD (zT k k') (xD (Au a a') (Au b b')))
 | .conv k a,.conv k' a'=>xD (zT k k') (Au a a')
 | .com k a,.com k' a'=>xD (zT k k') (Au a a')
 | .not a,.not a'=>Au a a'
 | .and a b,.and a' b'=>xD (Au a a') (Au b b')
 | .beq a b,.beq a' b'=>xD (Au a a') (Au b b')
 | .min a b,.min a' b'=>xD (Au a a') (Au b b')
 | .max a b,.max a' b'=>xD (Au a a') (Au b b')
 | .ite c a b,.ite c' a' b'=>xD (Au c c') (xD (Au a a') (Au b b'))
 | .dlen a,.dlen a'=>Au a a'
 | _,_=>false
abbrev Facts:=List (X×Bool)
def Jl:Facts→X→Option Bool
 | [],_=>none
 | x::l,c=>match Au x.1 c with|true=>some x.2|false=>Jl l c
def MM (fc:Facts) (c:X) (b:Bool):Facts:=match c with
 | .not a=>(a,Dj b)::fc
 | c=>(c,b)::fc
def xC (s:vS) (fc:Facts):Prop:=∀ x∈fc,(x.1.den s != 0)=x.2
theorem akj {a b:VK} (h:WH a b=true):a=b:=by
 cases a<;>cases b<;>first|rfl|(simp only[WH] at h;rw[Be h])|cases h
theorem akk {a b:BinOp} (h:Qk a=Qk b):a=b:=by cases a<;>cases b<;>first|rfl|(simp[Qk] at h)
theorem xk {a b:Bool} (h:xD a b=true):a=true∧b=true:=by
 cases a with
 | true=>exact⟨rfl,h⟩
 | false=>cases h
theorem Bf:∀ {a b:X},Au a b=true→a=b
 | .lit m,.lit n,h=>by simp only[Au,Di,beq_iff_eq] at h;rw[h]
 | .var k i,.var k' j,h=>by have h:=xk h;rw[wR.1 h.1,akj h.2]
 | .bin o k a b,.bin o' k' a' b',h=>by
  have h:=xk h;have h2:=xk h.2;have h3:=xk h2.2
  rw[akk (wR.1 h.1),Be h2.1,Bf h3.1,Bf h3.2]
 | .conv k a,.conv k' a',h=>by have h:=xk h;rw[Be h.1,Bf h.2]
 | .com k a,.com k' a',h=>by have h:=xk h;rw[Be h.1,Bf h.2]
 | .not a,.not a',h=>by rw[Bf (a:=a) (b:=a') h]
 | .and a b,.and a' b',h=>by have h:=xk h;rw[Bf h.1,Bf h.2]
 | .beq a b,.beq a' b',h=>by have h:=xk h;rw[Bf h.1,Bf h.2]
 | .min a b,.min a' b',h=>by have h:=xk h;rw[Bf h.1,Bf h.2]
 | .max a b,.max a' b',h=>by have h:=xk h;rw[Bf h.1,Bf h.2]
 | .ite c a b,.ite c' a' b',h=>by have h:=xk h;have h2:=xk h.2;rw[Bf h.1,Bf h2.1,Bf h2.2]
 | .dlen a,.dlen a',h=>by rw[Bf (a:=a) (b:=a') h]
theorem Ew {s:vS} : ∀ {fc:Facts} {c:X} {b:Bool},xC s fc→Jl fc c=some b→(c.den s != 0)=b
 | [],c,b,_,h=>by cases h
 | x::l,c,b,hf,h=>by
  simp only[Jl] at h
  split at h
  ·rename_i he
   cases h
   rw[← Bf he];exact hf x List.mem_cons_self
  ·exact Ew (fun y hy=>hf y (List.mem_cons_of_mem _ hy)) h
theorem WI {s:vS} {fc:Facts} {c:X} {b:Bool} (hf:xC s fc) (h:(c.den s != 0)=b):xC s (MM fc c b):=by
 unfold MM
 split
 ·rename_i a
  rw[X.den,yN] at h
  intro x hx
  rcases List.mem_cons.1 hx with rfl|hx
  ·simp only[Dk,← h,Bool.not_not]
  ·exact hf x hx
 ·intro x hx
  rcases List.mem_cons.1 hx with rfl|hx
  ·exact h
  ·exact hf x hx
abbrev BK:=Int×Int
def BL:IntKind→Int
 | .i8 => -128 | .i16 => -32768 | .i32 => -2147483648 | .i64 => -9223372036854775808|_=>0
def BM:IntKind→Int
 | .i8=>127 | .i16=>32767 | .i32=>2147483647 | .i64=>9223372036854775807
 | .u8=>255 | .u16=>65535 | .u32=>4294967295 | .u64=>18446744073709551615
theorem Ff (k:IntKind) (n:Int):BL k≤k.wrap n∧k.wrap n≤BM k:=by
 unfold IntKind.wrap IntKind.bits IntKind.signed BL BM
 cases k<;>simp<;>(try split)<;>(constructor<;>omega)
def Ex (a b:Int):Bool:=Dj (zS b a)
theorem MN {a b:Int} (h:Ex a b=true):a≤b:=by
 unfold Ex at h;rw[Dk,Cc] at h;simpa using h
theorem WJ {a b:Int} (h:zS a b=true):a<b:=by rw[Cc] at h;simpa using h
theorem Ql {a b:Int} (h:yF a b=true):a=b:=by rw[Di] at h;simpa using h
def Ey (a b:Int):Int:=match Ex a b with|true=>a|false=>b
def Ez (a b:Int):Int:=match Ex a b with|true=>b|false=>a
theorem WK {a b n:Int} (h1:n≤a) (h2:n≤b):n≤Ey a b:=by unfold Ey;split<;>assumption
theorem WL {a b n:Int} (h1:a≤n) (h2:b≤n):Ez a b≤n:=by unfold Ez;split<;>assumption
theorem acp (a b:Int):Ey a b≤a∧Ey a b≤b:=by
 unfold Ey;split
 ·rename_i h;exact⟨Int.le_refl _,MN h⟩
 ·rename_i h;unfold Ex at h;rw[Dk,Cc] at h;simp at h;omega
theorem acr (a b:Int):a≤Ez a b∧b≤Ez a b:=by
 unfold Ez;split
 ·rename_i h;exact⟨MN h,Int.le_refl _⟩
 ·rename_i h;unfold Ex at h;rw[Dk,Cc] at h;simp at h;omega
def AJ (r:BK) (n:Int):Prop:=r.1≤n∧n≤r.2
def Qm (k:IntKind) (lo hi:Int):BK:=match xD (Ex (BL k) lo) (Ex hi (BM k)) with|true=>(lo,hi)|false=>(BL k,BM k)
theorem SL {k:IntKind} {n:Int} (h1:BL k≤n) (h2:n≤BM k):k.wrap n=n:=by
 unfold IntKind.wrap IntKind.bits IntKind.signed BL BM at *
 cases k<;>simp at h1 h2 ⊢ <;> (try split)<;>omega
theorem WM {k:IntKind} {lo hi n:Int} (h:AJ (lo,hi) n):AJ (Qm k lo hi) (k.wrap n):=by
 unfold Qm
 split
 ·rename_i he
  have he:=xk he
  have h1:=MN he.1;have h2:=MN he.2
  rw[SL (Int.le_trans h1 h.1) (Int.le_trans h.2 h2)];exact h
 ·exact Ff k n
def WN (op:BinOp) (c:Int) (b:Bool) (r:BK):BK:=match op,b with
 | .lss,true=>(r.1,Ey r.2 (c-1))
 | .lss,false=>(Ez r.1 c,r.2)
 | .leq,true=>(r.1,Ey r.2 c)
 | .leq,false=>(Ez r.1 (c+1),r.2)
 | .gtr,true=>(Ez r.1 (c+1),r.2)
 | .gtr,false=>(r.1,Ey r.2 c)
 | .geq,true=>(Ez r.1 c,r.2)
 | .geq,false=>(r.1,Ey r.2 (c-1))
 | .eql,true=>(c,c)
 | .neq,false=>(c,c)
 | .eql,false=>(match yF r.1 c with|true=>c+1|false=>r.1,match yF r.2 c with|true=>c-1|false=>r.2)
 | .neq,true=>(match yF r.1 c with|true=>c+1|false=>r.1,match yF r.2 c with|true=>c-1|false=>r.2)
 | _,_=>r
theorem akl {op:BinOp} {k:IntKind} {c n:Int} {b:Bool} {r:BK} (h:AJ r n) (hf:(vX op k n c != 0)=b):AJ (WN op c b r) n:=by
 have ne:n≠c→AJ (match yF r.1 c with|true=>c+1|false=>r.1,match yF r.2 c with|true=>c-1|false=>r.2) n:=fun hn=>by
  obtain⟨h1,h2⟩:=h
  constructor
  ·simp only;split
   ·rename_i he;have:=Ql he;omega
   ·exact h1
  ·simp only;split
   ·rename_i he;have:=Ql he;omega
   ·exact h2
 cases op<;>simp only[vX,yN] at hf<;>cases b<;>simp only[WN]<;>first
  | exact h
  | (simp at hf;exact ne hf)
  | (simp at hf;subst hf;exact⟨Int.le_refl _,Int.le_refl _⟩)
  | (simp at hf;exact⟨h.1,WK h.2 (by omega)⟩)
  | (simp at hf;exact⟨WL h.1 (by omega),h.2⟩)
def WO (x:X) (f:X×Bool) (r:BK):BK:=match f.1 with
 | .bin op _ a (.lit c)=>match Au a x with|true=>WN op c f.2 r|false=>r
 | _=>r
def MO (x:X):Facts→BK→BK
 | [],r=>r
 | f::fc,r=>WO x f (MO x fc r)
theorem WP {s:vS} {x:X} : ∀ {fc:Facts} {r:BK},xC s fc→AJ r (x.den s)→AJ (MO x fc r) (x.den s)
 | [],r,_,h=>h
 | f::fc,r,hf,h=>by
  have ih:AJ (MO x fc r) (x.den s):=WP (fun y hy=>hf y (List.mem_cons_of_mem _ hy)) h
  show AJ (WO x f (MO x fc r)) _
  unfold WO
  split
  ·rename_i op k a c hc
   split
   ·rename_i he
    have:=Bf he;subst this
    have hf0:=hf f List.mem_cons_self
    rw[hc] at hf0
    exact akl ih hf0
   ·exact ih
  ·exact ih
def Ce (x:X) (fc:Facts) (r:BK):BK:=MO x fc (MO x fc r)
theorem CL {s:vS} {x:X} {fc:Facts} {r:BK} (hf:xC s fc) (h:AJ r (x.den s)):AJ (Ce x fc r) (x.den s):=WP hf (WP hf h)
def Av (fc:Facts):X→Option BK
 | .lit n=>some (n,n)
 | .var k i=>match k with
  | .int k=>some (Ce (.var (.int k) i) fc (BL k,BM k))
  | .nat=>none
  | _=>some (Ce (.var k i) fc (.ofNat 0,.ofNat 1))
 | .bin op k a b=>match op with
  | .add=>match Av fc a,Av fc b with
   | some x,some y=>some (Ce (.bin .add k a b) fc (Qm k (x.1+y.1) (x.2+y.2)))
   | _,_=>some (Ce (.bin .add k a b) fc (BL k,BM k))
  | .sub=>match Av fc a,Av fc b with
   | some x,some y=>some (Ce (.bin .sub k a b) fc (Qm k (x.1-y.2) (x.2-y.1)))
   | _,_=>some (Ce (.bin .sub k a b) fc (BL k,BM k))
  | .mul | .quo | .shl | .or | .xor | .andNot=>some (Ce (.bin op k a b) fc (BL k,BM k))
  | .and=>match b with
   | .lit (.ofNat n)=>match zS (.ofNat n) (.ofNat (Hz k)) with
    | true=>some (Ce (.bin .and k a (.lit (.ofNat n))) fc (.ofNat 0,.ofNat n))
    | false=>some (Ce (.bin .and k a (.lit (.ofNat n))) fc (BL k,BM k))
   | b=>some (Ce (.bin .and k a b) fc (BL k,BM k))
  | .shr=>match Av fc a,b with
   | some x,.lit (.ofNat n)=>some (Ce (.bin .shr k a (.lit (.ofNat n))) fc (x.1.fdiv (2^MK n k),x.2.fdiv (2^MK n k)))
   | _,_=>none
  | .rem=>none
  | _=>some (.ofNat 0,.ofNat 1)
 | .conv k a=>match Av fc a with
  | some x=>some (Ce (.conv k a) fc (Qm k x.1 x.2))
  | none=>some (Ce (.conv k a) fc (BL k,BM k))
 | .com k _=>some (BL k,BM k)
 | .not _=>some (.ofNat 0,.ofNat 1)
 | .and _ _=>some (.ofNat 0,.ofNat 1)
 | .beq _ _=>some (.ofNat 0,.ofNat 1)
 | .min a b=>match Av fc a,Av fc b with
  | some x,some y=>some (Ce (.min a b) fc (Ey x.1 y.1,Ey x.2 y.2))
  | _,_=>none
 | .max a b=>match Av fc a,Av fc b with
  | some x,some y=>some (Ce (.max a b) fc (Ez x.1 y.1,Ez x.2 y.2))
  | _,_=>none
 | .ite _ a b=>match Av fc a,Av fc b with
  | some x,some y=>some (Ey x.1 y.1,Ez x.2 y.2)
  | _,_=>none
 | .dlen _=>none
theorem MP (b:Bool):AJ (.ofNat 0,.ofNat 1) (vw b):=by cases b<;>exact⟨by decide,by decide⟩
theorem akm {k:IntKind} {a:Int} {n:Nat} (h:n<Hz k):AJ (.ofNat 0,.ofNat n) (DT .and k a (.ofNat n)):=by
 have h0:fold .and k a (.ofNat n)=DT .and k a (.ofNat n):=HV .and k a (.ofNat n)
 rw[← h0]
 simp only[fold,xR]
 have hm:Nat.land (xQ k a) (xQ k (.ofNat n))≤n:=by
  refine Nat.le_trans (Nat.and_le_right (n:=xQ k a) (m:=xQ k (.ofNat n))) ?_
  exact Nat.mod_le _ _
 have hk:(Hz k:Int)≤BM k+1:=by unfold BM Hz;cases k<;>decide
 have hl:BL k≤0:=by unfold BL;cases k<;>decide
 rw[SL (by have:(0:Int)≤Int.ofNat (Nat.land (xQ k a) (xQ k (.ofNat n))):=Int.natCast_nonneg _;omega) (by
  have:Int.ofNat (Nat.land (xQ k a) (xQ k (.ofNat n)))≤(n:Int):=Int.ofNat_le.2 hm
  omega)]
 exact⟨Int.natCast_nonneg _,Int.ofNat_le.2 hm⟩
theorem acs {a b:Int} (m:Nat) (h:a≤b):a.fdiv (2^m)≤b.fdiv (2^m):=by
 rw[Int.fdiv_eq_ediv_of_nonneg _ (Int.pow_nonneg (by decide)),Int.fdiv_eq_ediv_of_nonneg _ (Int.pow_nonneg (by decide))]
 exact Int.ediv_le_ediv (Int.pow_pos (by decide)) h
theorem Dm {s:vS} {fc:Facts} (hf:xC s fc):∀ {x:X} {r:BK},Av fc x=some r→AJ r (x.den s)
 | .lit n,r,h=>by cases h;exact⟨Int.le_refl _,Int.le_refl _⟩
 | .var k i,r,h=>by
  simp only[Av] at h
  split at h
  ·cases h;exact CL hf (Ff _ _)
  ·cases h
  ·rename_i hk hk2
   cases h
   refine CL hf ?_
   cases k with
   | int k=>exact absurd rfl (hk k)
   | nat=>exact absurd rfl hk2
   | bool=>exact MP _
   | bit=>exact MP _
 | .dlen a,r,h=>by cases h
 | .bin op k a b,r,h=>by
  have kr:∀ {op'},op' = .add∨op' = .sub∨op' = .mul∨op' = .quo∨op' = .shl∨op' = .and∨op' = .or∨op' = .xor∨op' = .andNot→AJ (BL k,BM k) ((X.bin op' k a b).den s):=by
   rintro op' (rfl|rfl|rfl|rfl|rfl|rfl|rfl|rfl|rfl)<;>exact Ff _ _
  cases op<;>simp only[Av] at h
  case add =>
   split at h
   ·rename_i x y hx hy
    cases h
    have h1:=Dm hf hx;have h2:=Dm hf hy
    exact CL hf (WM ⟨Int.add_le_add h1.1 h2.1,Int.add_le_add h1.2 h2.2⟩)
   ·cases h;exact CL hf (kr (by simp))
  case sub =>
   split at h
   ·rename_i x y hx hy
    cases h
    have h1:=Dm hf hx;have h2:=Dm hf hy
    exact CL hf (WM ⟨Int.sub_le_sub h1.1 h2.2,Int.sub_le_sub h1.2 h2.1⟩)
   ·cases h;exact CL hf (kr (by simp))
  case and =>
   split at h
   ·rename_i n
    split at h
    ·rename_i hn
     cases h
     exact CL hf (akm (by have:=WJ hn;simpa using this))
    ·cases h;exact CL hf (Ff _ _)
   ·cases h;exact CL hf (Ff _ _)
  case shr =>
   split at h
   ·rename_i x n hx
    cases h
    have h1:=Dm hf hx
    refine CL hf ?_
    rw[Wz]
    exact⟨acs _ h1.1,acs _ h1.2⟩
   ·cases h
  case rem=>cases h
  all_goals first
   | (cases h;exact CL hf (Ff _ _))
   | (cases h;exact MP _)
 | .conv k a,r,h=>by
  simp only[Av] at h
  split at h
  ·rename_i x hx
   cases h
   exact CL hf (WM (Dm hf hx))
  ·cases h;exact CL hf (Ff _ _)
 | .com k a,r,h=>by cases h;exact Ff _ _
 | .not a,r,h=>by cases h;exact MP _
 | .and a b,r,h=>by cases h;exact MP _
 | .beq a b,r,h=>by cases h;exact MP _
 | .min a b,r,h=>by
  simp only[Av] at h
  split at h
  ·rename_i x y hx hy
   cases h
   have h1:=Dm hf hx;have h2:=Dm hf hy
   have h3:=acp x.1 y.1
   refine CL hf ?_
   simp only[X.den]
   split
   ·rename_i hlt;exact⟨Int.le_trans h3.2 h2.1,WK (Int.le_trans (Int.le_of_lt hlt) h1.2) h2.2⟩
   ·rename_i hlt;exact⟨Int.le_trans h3.1 h1.1,WK h1.2 (Int.le_trans (Int.not_lt.1 hlt) h2.2)⟩
  ·cases h
 | .max a b,r,h=>by
  simp only[Av] at h
  split at h
  ·rename_i x y hx hy
   cases h
   have h1:=Dm hf hx;have h2:=Dm hf hy
   have h3:=acr x.2 y.2
   refine CL hf ?_
   simp only[X.den]
   split
   ·rename_i hlt;exact⟨WL (Int.le_trans h1.1 (Int.le_of_lt hlt)) h2.1,Int.le_trans h2.2 h3.2⟩
   ·rename_i hlt;exact⟨WL h1.1 (Int.le_trans h2.1 (Int.not_lt.1 hlt)),Int.le_trans h1.2 h3.1⟩
  ·cases h
 | .ite c a b,r,h=>by
  simp only[Av] at h
  split at h
  ·rename_i x y hx hy
   cases h
   have h1:=Dm hf hx;have h2:=Dm hf hy
   have h3:=acp x.1 y.1;have h4:=acr x.2 y.2
   simp only[X.den]
   split
   ·exact⟨Int.le_trans h3.2 h2.1,Int.le_trans h2.2 h4.2⟩
   ·exact⟨Int.le_trans h3.1 h1.1,Int.le_trans h1.2 h4.1⟩
  ·cases h
def WQ (op:BinOp) (x y:BK):Option Bool:=match op with
 | .lss=>match zS x.2 y.1 with|true=>some true|false=>match Ex y.2 x.1 with|true=>some false|false=>none
 | .leq=>match Ex x.2 y.1 with|true=>some true|false=>match zS y.2 x.1 with|true=>some false|false=>none
 | .gtr=>match zS y.2 x.1 with|true=>some true|false=>match Ex x.2 y.1 with|true=>some false|false=>none
 | .geq=>match Ex y.2 x.1 with|true=>some true|false=>match zS x.2 y.1 with|true=>some false|false=>none
 | .eql=>match zS x.2 y.1 with
  | true=>some false
  | false=>match zS y.2 x.1 with
   | true=>some false
   | false=>match xD (yF x.1 x.2) (xD (yF y.1 y.2) (yF x.1 y.1)) with|true=>some true|false=>none
 | .neq=>match zS x.2 y.1 with
  | true=>some true
  | false=>match zS y.2 x.1 with
   | true=>some true
   | false=>match xD (yF x.1 x.2) (xD (yF y.1 y.2) (yF x.1 y.1)) with|true=>some false|false=>none
 | _=>none
theorem akn {op : BinOp} {k : IntKind} {x y : BK} {m n : Int} {b : Bool} (hx : AJ x m) (hy : AJ y n) (h : WQ op x y = some b) : (vX op k m n != 0) = b := by
  obtain ⟨x1, x2⟩ := hx
  obtain ⟨y1, y2⟩ := hy
  cases op <;> simp only [WQ] at h <;> try cases h
  all_goals
    simp only [vX, yN]
    split at h
    · rename_i he
      first
        | (have := WJ he; cases h; simp; omega)
        | (have := MN he; cases h; simp; omega)
    · split at h
      · rename_i he
        first
          | (have := WJ he; cases h; simp; omega)
          | (have := MN he; cases h; simp; omega)
      · first
          | (cases h; done)
          | (split at h
             · rename_i he
               have he := xk he; have he2 := xk he.2
               have e1 := Ql he.1; have e2 := Ql he2.1; have e3 := Ql he2.2
               cases h; simp; omega
             · cases h)
def BN (fc:Facts):X→Option Bool
 | .lit n=>some (vG n)
 | .bin op k a b=>match Jl fc (.bin op k a b) with
  | some r=>some r
  | none=>match Av fc a,Av fc b with
   | some x,some y=>WQ op x y
   | _,_=>none
 | .not a=>match BN fc a with|some b=>some (Dj b)|none=>Jl fc (.not a)
 | .and a b=>match BN fc a with
  | some true=>BN fc b
  | some false=>some false
  | none=>match BN fc b with|some false=>some false|_=>Jl fc (.and a b)
 | .ite c a b=>match BN fc c with
  | some true=>BN fc a
  | some false=>BN fc b
  | none=>match BN fc a,BN fc b with
   | some true,some true=>some true
   | some false,some false=>some false
   | _,_=>Jl fc (.ite c a b)
 | x=>Jl fc x
theorem Cf {s:vS} {fc:Facts} (hf:xC s fc):∀ {c:X} {b:Bool},BN fc c=some b→(c.den s != 0)=b
 | .lit n,b,h=>by cases h;rw[zm];rfl
 | .bin op k x y,b,h=>by
  simp only[BN] at h
  split at h
  ·rename_i r hr;cases h;exact Ew hf hr
  ·split at h
   ·rename_i p q hp hq
    exact akn (Dm hf hp) (Dm hf hq) h
   ·cases h
 | .not a,b,h=>by
  simp only[BN] at h
  split at h
  ·rename_i q hq;cases h;rw[X.den,yN,Cf hf hq,Dk]
  ·exact Ew hf h
 | .and x y,b,h=>by
  simp only[BN] at h
  split at h
  ·rename_i hq
   rw[X.den,yN,Cf hf hq,Cf hf h];rfl
  ·rename_i hq;cases h
   rw[X.den,yN,Cf hf hq];rfl
  ·split at h
   ·rename_i hq;cases h
    rw[X.den,yN,Cf hf hq,Bool.and_false]
   ·exact Ew hf h
 | .ite c x y,b,h=>by
  have den:∀ q,(x.den s != 0)=q→(y.den s != 0)=q→((X.ite c x y).den s != 0)=q:=fun q h1 h2=>by
   simp only[X.den];split<;>assumption
  simp only[BN] at h
  split at h
  ·rename_i hq
   have:=Cf hf hq
   have hc:c.den s≠0:=by simpa using this
   simp only[X.den,if_neg hc];exact Cf hf h
  ·rename_i hq
   have:=Cf hf hq
   have hc:c.den s=0:=by simpa using this
   simp only[X.den,if_pos hc];exact Cf hf h
  ·split at h
   ·rename_i h1 h2;cases h;exact den _ (Cf hf h1) (Cf hf h2)
   ·rename_i h1 h2;cases h;exact den _ (Cf hf h1) (Cf hf h2)
   ·exact Ew hf h
 | .var k i,b,h=>Ew hf h
 | .conv k a,b,h=>Ew hf h
 | .com k a,b,h=>Ew hf h
 | .beq x y,b,h=>Ew hf h
 | .min x y,b,h=>Ew hf h
 | .max x y,b,h=>Ew hf h
 | .dlen x,b,h=>Ew hf h
def Fg {β:Type} (fc:Facts) (c:X) (K:Bool→Facts→vo β):vo β:=match c with
 | .lit n=>K (vG n) fc
 | c=>match BN fc c with
  | some b=>K b fc
  | none=>.ite c (K true (MM fc c true)) (K false (MM fc c false))
theorem HZ {β:Type} {Φ:yY} {s:vS} {fc:Facts} {c:X} {K:Bool→Facts→vo β} {r:β} (hf:xC s fc) (h:(Fg fc c K).path Φ s=some r):∃ fc',xC s fc'∧(K (c.den s != 0) fc').path Φ s=some r:=by
 unfold Fg at h
 split at h
 ·rename_i n
  refine⟨fc,hf,?_⟩
  rw[zm] at h;exact h
 ·split at h
  ·rename_i b hb
   rw[Cf hf hb];exact⟨fc,hf,h⟩
  ·simp only[vo.path] at h
   split at h
   ·rename_i hc
    have:(c.den s != 0)=false:=by rw[hc];rfl
    rw[this];exact⟨_,WI hf this,h⟩
   ·rename_i hc
    have:(c.den s != 0)=true:=by simpa using hc
    rw[this];exact⟨_,WI hf this,h⟩
open Go.RowKit
inductive SV where
 | v (x:Value)
 | int (k:IntKind) (x:X)
 | bool (x:X)
 | loc (b off:Nat)
 | hd (k:Nat)
 | ha (k off:Nat)
 | sl (b off len cap:Nat)
 | fn (f:Fn) (a c:List SV)
 | tup (l:List SV)
 | agg (l:List SV)
mutual
def SV.den (s:vS):SV→AV
 | .v x=>.v x
 | .int k x=>.v (.int k (x.den s))
 | .bool x=>.v (.bool (x.den s != 0))
 | .loc b off=>.loc b off
 | .hd k=>.hd k
 | .ha k off=>.ha k off
 | .sl b off len cap=>.sl b off len cap
 | .fn f a c=>Bo f (SV.dens s a) (SV.dens s c)
 | .tup l=>Bn (SV.dens s l)
 | .agg l=>Ap (SV.dens s l)
def SV.dens (s:vS):List SV→List AV
 | []=>[]
 | x::l=>SV.den s x::SV.dens s l
end
theorem SV.dens_map (s:vS):∀ l:List SV,SV.dens s l=l.map (SV.den s)
 | []=>rfl
 | x::l=>by rw[SV.dens,SV.dens_map s l];rfl
def Bp (x:Value):SV:=match x with
 | .int k n=>.int k (.lit n)
 | .bool b=>.bool (.lit (vw b))
 | x=>.v x
theorem WR (s:vS) (x:Value):(Bp x).den s = .v x:=by
 cases x<;>first|rfl|(simp only[Bp,SV.den,X.den,yN])
def H5 (x:Value):SV:=match x with
 | .agg cs=>.agg (cs.toList.map Bp)
 | x=>Bp x
theorem EA (s:vS) (l:List Value):SV.dens s (l.map Bp)=l.map .v:=by
 rw[SV.dens_map,List.map_map]
 apply List.map_congr_left;intro x _;exact WR s x
theorem Jm:∀ l:List Value,yf (l.map .v)=some l
 | []=>rfl
 | x::l=>by rw[List.map_cons,yf,Jm l]
theorem SN (l:List Value):Ap (l.map .v) = .v (.agg l.toArray):=by unfold Ap;rw[Jm]
theorem SQ (l:List Value):Bn (l.map .v) = .v (.tuple l.toArray):=by unfold Bn;rw[Jm]
theorem SS (s:vS) (x:Value):(H5 x).den s = .v x:=by
 unfold H5;split
 ·simp only[SV.den,EA,SN]
 ·exact WR s _
structure SO where
 c:List SV
 t:Option TypeId
def H6 (n:Nat):List Value:=(aci n).map fun d=>.int .u32 (Int.ofNat d)
def H7 (c:List SV):X:=match c with
 | [.int _ x]=>x
 | _=>.lit (.ofNat 0)
def acu:Value→Value×Value
 | .tuple xs=>match xs.toList with | [k,v]=>(k,v)|_=>(undef,undef)
 | _=>(undef,undef)
def WS:SV→Option (List (Value×Value))
 | .v (.tuple xs)=>some (xs.toList.map acu)
 | _=>none
def CO (c:List SV):Option (List (Value×Value)):=match c with
 | [x]=>WS x
 | _=>none
def xW (k:VK) (n:Int):Value:=match k with | .int k=>.int k (k.wrap n) | .bool=>.bool (n != 0) | .bit=>.int .u64 (vw (n != 0)) | .nat=>.int .u64 (Int.ofNat n.toNat)
def wQ:List VK→List Int→List Value
 | k::ks,n::ns=>xW k n::wQ ks ns
 | _,_=>[]
structure Qn where
 n:X
 b:Nat
 ks:List VK
def SX:SV→VK
 | .int k _=>.int k
 | _=>.bool
def SY:SV→Bool
 | .v (.bool false)=>true
 | _=>false
def S9:SV→Option X
 | .int .i64 n=>some n
 | _=>none
def Ta:SV→Option Nat
 | .v (.int .i64 (.ofNat b))=>some b
 | _=>none
def Dn (c:List SV):Option Qn:=match c with
 | x::y::z::l=>match SY x,S9 y,Ta z with
  | true,some n,some b=>some ⟨n,b,l.map SX⟩
  | _,_,_=>none
 | _=>none
def Bq (s:vS) (b:Nat) (ks:List VK):Nat→List Value
 | 0=>[]
 | n+1=>Bq s b ks n++wQ ks (Ad s (b+n*ks.length) ks.length)
def SO.den (s:vS) (o:SO):AO:=match o.t with
 | some t=>.own (SV.dens s o.c) t
 | none=>match CO o.c with
  | some es=>.mp es
  | none=>match Dn o.c with
   | some r=>.rd (r.n.den s).toNat (Bq s r.b r.ks (r.n.den s).toNat)
   | none=>.rd (Fe ((H7 o.c).den s).toNat) (H6 ((H7 o.c).den s).toNat)
theorem SO.den_own (s:vS) {o:SO} {t:TypeId} (h:o.t=some t):o.den s = .own (SV.dens s o.c) t:=by unfold SO.den;rw[h]
theorem SO.den_nat (s:vS) {o:SO} (h:o.t=none) (hm:CO o.c=none) (ho:Dn o.c=none):o.den s = .rd (Fe ((H7 o.c).den s).toNat) (H6 ((H7 o.c).den s).toNat):=by unfold SO.den;rw[h];simp only[];rw[hm];simp only[];rw[ho]
theorem SO.den_ora (s:vS) {o:SO} {r:Qn} (h:o.t=none) (hm:CO o.c=none) (ho:Dn o.c=some r):o.den s = .rd (r.n.den s).toNat (Bq s r.b r.ks (r.n.den s).toNat):=by unfold SO.den;rw[h];simp only[];rw[hm];simp only[];rw[ho]
theorem SO.den_map (s:vS) {o:SO} {es:List (Value×Value)} (h:o.t=none) (hm:CO o.c=some es):o.den s = .mp es:=by unfold SO.den;rw[h];simp only[];rw[hm]
abbrev SH:=List (Nat×SO)
def hget:SH→Nat→Option SO
 | [],_=>none
 | x::l,k=>match Nat.beq x.1 k with|true=>some x.2|false=>hget l k
def SH.den (s:vS) (H:SH):vE:=fun k=>(hget H k).map (SO.den s)
abbrev wE:=List (Option SV)
def zD:wE→Nat→Option SV
 | [],_=>none
 | x::l,0=>x
 | x::l,n+1=>zD l n
def wE.den (s:vS) (T:wE):wF:=fun t=>(zD T t).map (SV.den s)
def Tc {β:Sort _} : wE→Nat→SV→(wE→β)→β
 | [],_,_,k=>k []
 | x::l,0,v,k=>k (some v::l)
 | x::l,n+1,v,k=>Tc l n v fun l'=>k (x::l')
def Fh:wE→Nat→SV→wE
 | [],_,_=>[]
 | _::l,0,v=>some v::l
 | x::l,n+1,v=>x::Fh l n v
theorem acv {β:Sort _} : ∀ (T:wE) (n:Nat) (v:SV) (k:wE→β),Tc T n v k=k (Fh T n v)
 | [],_,_,_=>rfl
 | x::l,0,_,_=>rfl
 | x::l,n+1,v,k=>by rw[Tc,acv l n v];rfl
theorem acw:∀ (T:wE) (n:Nat) (v:SV) (t:Nat),zD (Fh T n v) t=if t=n∧n<T.length then some v else zD T t
 | [],n,v,t=>by simp[Fh]
 | x::l,0,v,0=>by simp[Fh,zD]
 | x::l,0,v,t+1=>by simp[Fh,zD]
 | x::l,n+1,v,t=>by
  rw[Fh]
  cases t with
  | zero=>simp[zD]
  | succ t =>
   show zD (Fh l n v) t=_
   rw[acw l n v t];simp[zD]
theorem acx:∀ (T:wE) (n:Nat) (v:SV),(Fh T n v).length=T.length
 | [],_,_=>rfl
 | x::l,0,_=>rfl
 | x::l,n+1,v=>by rw[Fh];simp[acx l n v]
theorem wE.den_set (s:vS) (T:wE) (n:Nat) (v:SV) (h:n<T.length):wE.den s (Fh T n v)=(wE.den s T).put (some n) (v.den s):=by
 funext t
 unfold wE.den
 rw[acw]
 by_cases ht:t=n
 ·subst ht;rw[if_pos ⟨rfl,h⟩,wF.put_same];rfl
 ·rw[if_neg (fun e=>ht e.1),wF.put_ne _ _ _ ht]
def hset {β:Sort _} : SH→Nat→SO→(SH→β)→β
 | [],k,o,K=>K [(k,o)]
 | x::l,k,o,K=>match Nat.beq x.1 k with
  | true=>K ((k,o)::l)
  | false=>hset l k o fun l'=>K (x::l')
def Jn:SH→Nat→SO→SH
 | [],k,o=>[(k,o)]
 | x::l,k,o=>match Nat.beq x.1 k with
  | true=>(k,o)::l
  | false=>x::Jn l k o
theorem acy {β:Sort _} : ∀ (H:SH) (k:Nat) (o:SO) (K:SH→β),hset H k o K=K (Jn H k o)
 | [],_,_,_=>rfl
 | x::l,k,o,K=>by
  simp only[hset,Jn]
  cases Nat.beq x.1 k with
  | true=>rfl
  | false=>simp only[];rw[acy l k o]
theorem WT:∀ (H:SH) (k:Nat) (o:SO) (j:Nat),hget (Jn H k o) j=if j=k then some o else hget H j
 | [],k,o,j=>by
  simp only[Jn,hget]
  cases h:Nat.beq k j with
  | true=>rw[if_pos (wR.1 h).symm]
  | false=>rw[if_neg];intro e;subst e;simp at h
 | x::l,k,o,j=>by
  simp only[Jn]
  cases h:Nat.beq x.1 k with
  | true =>
   have hx:=wR.1 h
   simp only[hget]
   cases h2:Nat.beq k j with
   | true=>rw[if_pos (wR.1 h2).symm]
   | false =>
    have:j≠k:=fun e=>by subst e;simp at h2
    rw[if_neg this,hx,h2]
  | false =>
   simp only[hget]
   cases h2:Nat.beq x.1 j with
   | true =>
    have hj:=wR.1 h2
    have:j≠k:=fun e=>by rw[← hj] at e;rw[e] at h;simp at h
    rw[if_neg this]
   | false=>simp only[];exact WT l k o j
theorem SH.den_set (s:vS) (H:SH) (k:Nat) (o:SO):SH.den s (Jn H k o)=(SH.den s H).put k (o.den s):=by
 funext j
 unfold SH.den vE.put
 rw[WT]
 split<;>rfl
def F8 {β:Sort _} : SH→List (Nat×SO)→(SH→β)→β
 | H,[],K=>K H
 | H,x::l,K=>hset H x.1 x.2 fun H=>F8 H l K
def Kz:SH→List (Nat×SO)→SH
 | H,[]=>H
 | H,x::l=>Kz (Jn H x.1 x.2) l
theorem acz {β:Sort _} : ∀ (l:List (Nat×SO)) (H:SH) (K:SH→β),F8 H l K=K (Kz H l)
 | [],_,_=>rfl
 | x::l,H,K=>by rw[F8,acy,acz l,Kz]
def wY (s:vS) (ef:List (Nat×SO)):List (Nat×AO):=ef.map fun x=>(x.1,x.2.den s)
theorem acA (s:vS):∀ (l:List (Nat×SO)) (H:SH),SH.den s (Kz H l)=(SH.den s H).puts (wY s l)
 | [],_=>rfl
 | x::l,H=>by rw[Kz,acA s l,SH.den_set];rfl
def EB (T:wE):Operand→Option SV
 | .tmp t=>zD T t
 | .const v=>some (H5 v)
 | .global g=>some (.v (.pointer (some ⟨g,0,none⟩)))
 | .func f=>some (.v (.func (.func f) #[] #[]))
def RD (s:vS) (ρ:Operand→Option SV) (ρ':Operand→Option AV):Prop:=∀ x a,ρ x=some a→ρ' x=some (a.den s)
theorem Jo (s : vS) (T : wE) : RD s (EB T) (zz (wE.den s T)) := by
  intro x a h
  cases x with
  | tmp t => have h : zD T t = some a := h
             simp [zz, wE.den, h]
  | const v => simp only [EB, Option.some.injEq] at h; subst h; rw [SS]; rfl
  | global g => simp only [EB, Option.some.injEq] at h; subst h; rfl
  | func f => simp only [EB, Option.some.injEq] at h; subst h; rfl
def cellsS:SV→List SV
 | .v x=>x.cells.toList.map Bp
 | .agg l=>l
 | x=>[x]
theorem Qo (l:List AV):xV (Ap l)=l:=by
 unfold Ap
 cases h:yf l with
 | none=>rfl
 | some vs =>
  simp only[xV,Value.cells]
  induction l generalizing vs with
  | nil=>simp only[yf,Option.some.injEq] at h;subst h;rfl
  | cons x l ih =>
   cases x<;>simp only[yf] at h<;>try cases h
   rename_i x
   cases h2:yf l with
   | none=>rw[h2] at h;cases h
   | some ws =>
    rw[h2] at h
    simp only[Option.some.injEq] at h
    subst h
    simpa using ih ws h2
theorem ako (l:List AV):xV (Bn l) = [Bn l]:=by
 unfold Bn;split<;>rfl
theorem akp (f:Fn) (a c:List AV):xV (Bo f a c) = [Bo f a c]:=by
 unfold Bo;split<;>rfl
theorem MQ (s:vS) (a:SV):SV.dens s (cellsS a)=xV (a.den s):=by
 cases a with
 | v x=>simp only[cellsS,EA,SV.den,xV]
 | agg l=>simp only[cellsS,SV.den,Qo]
 | tup l=>simp only[cellsS,SV.dens,SV.den,ako]
 | fn f a c=>simp only[cellsS,SV.dens,SV.den,akp]
 | int k x=>simp only[cellsS,SV.dens,SV.den,xV,Value.cells,List.map_cons,List.map_nil]
 | bool x=>simp only[cellsS,SV.dens,SV.den,xV,Value.cells,List.map_cons,List.map_nil]
 | _=>rfl
def acB:SV→Bool
 | .v (.agg _)=>false
 | .v (.tuple _)=>false
 | .agg _=>false
 | .tup _=>false
 | .ha _ _=>false
 | _=>true
theorem akq (f:Fn) (a c:List AV):Km (Bo f a c)=true:=by unfold Bo;split<;>rfl
theorem akr {s:vS} {a:SV} (h:acB a=true):Km (a.den s)=true:=by
 cases a with
 | v x=>cases x<;>first|rfl|cases h
 | fn f a c=>exact akq _ _ _
 | agg l=>cases h
 | tup l=>cases h
 | ha k o=>cases h
 | _=>rfl
def H8 (P:Program) (t:TypeId) (c:List SV) (off:Nat):Option SV :=
 match I8 P t with
 | some true=>match xU P t with
  | some sz=>match Nat.ble (off+sz) c.length,Nat.ble 1 sz with
   | true,true=>F7 ((c.drop off).take sz) fun l=>some (.agg l)
   | _,_=>none
  | none=>none
 | some false=>c[off]?
 | none=>none
theorem DU (s:vS) (l:List SV):(SV.dens s l).length=l.length:=by rw[SV.dens_map];simp
theorem WU (s:vS) (l:List SV) (n:Nat):SV.dens s (l.take n)=(SV.dens s l).take n:=by rw[SV.dens_map,SV.dens_map,List.map_take]
theorem WV (s:vS) (l:List SV) (n:Nat):SV.dens s (l.drop n)=(SV.dens s l).drop n:=by rw[SV.dens_map,SV.dens_map,List.map_drop]
theorem Jp (s:vS) (a b:List SV):SV.dens s (a++b)=SV.dens s a++SV.dens s b:=by simp[SV.dens_map]
theorem acC (s:vS) {l:List SV} {i:Nat} {x:SV} (h:l[i]? = some x):(SV.dens s l)[i]? = some (x.den s):=by rw[SV.dens_map];simp[h]
theorem KA {P:Program} {t:TypeId} {c:List SV} {off:Nat} {r:SV} (s:vS) (h:H8 P t c off=some r):zQ P t (SV.dens s c) off=some (r.den s):=by
 unfold H8 at h
 unfold zQ
 split at h
 ·rename_i ha
  rw[ha]
  simp only
  split at h
  ·rename_i sz hs
   rw[hs]
   simp only
   split at h
   ·rename_i h1 h2
    rw[Ji] at h
    cases h
    have h1:=Nat.le_of_ble_eq_true h1;have h2:=Nat.le_of_ble_eq_true h2
    rw[if_pos ⟨by rw[DU];exact h1,h2⟩]
    simp only[SV.den,WU,WV]
   ·cases h
  ·cases h
 ·rename_i ha
  rw[ha]
  exact acC s h
 ·cases h
abbrev SR:=SV×List Nat×List (Nat×SO)
def one (a:SV):vo SR:=.leaf (a,[],[])
def MR (w:String) (x:Option SV):vo SR:=match x with|some a=>.leaf (a,[],[])|none=>.stuck w
def WW (P:Program) (G:wD) (t:TypeId) (H:SH) (a:SV):vo SR:=match a with
 | .loc b off=>match hget H b with
  | some o=>match o.t with
   | some _=>match H8 P t o.c off with|some r=>.leaf (r,[b],[])|none=>.stuck "load: cells"
   | none=>.stuck "load: a number"
  | none=>.stuck "load: block"
 | .v (.pointer (some ⟨g,off,none⟩))=>match PZ G g with
  | some c=>match H8 P t (c.map Bp) off with|some r=>one r|none=>.stuck "load: global cells"
  | none=>.stuck "load: global"
 | _=>.stuck "load"
def acD (c:List SV) (off:Nat) (ys:List SV):List SV:=c.take off++ys++c.drop (off+ys.length)
def WX (P:Program) (t:TypeId) (H:SH) (x y:SV):vo SR:=match x with
 | .loc b off=>match hget H b with
  | some ⟨_,none⟩=>.stuck "store: a number"
  | some o=>match (cellsS y).all acB,xU P t with
   | true,some n=>match Nat.beq n (cellsS y).length,Nat.ble (off+(cellsS y).length) o.c.length with
    | true,true=>F7 (acD o.c off (cellsS y)) fun c=>.leaf (.v undef,[b],[(b,⟨c,o.t⟩)])
    | _,_=>.stuck "store: size"
   | _,_=>.stuck "store: cells"
  | none=>.stuck "store: block"
 | _=>.stuck "store"
def WY (P:Program) (t:TypeId) (f:Nat) (x:SV):Option SV:=match x with
 | .agg l=>match FY P t f with
  | some (off,ft)=>H8 P ft l off
  | none=>none
 | .v (.agg cs)=>match FY P t f with
  | some (off,ft)=>H8 P ft (cs.toList.map Bp) off
  | none=>none
 | _=>none
def WZ (P:Program) (t:TypeId) (f:Nat) (x:SV):Option SV :=
 match FY P t f with
 | some (off,ft)=>match xU P ft with
  | some (_+1)=>match x with
   | .loc b o=>yO (o+off) fun n=>some (.loc b n)
   | .v (.pointer (some ⟨g,o,none⟩))=>yO (o+off) fun n=>some (.v (.pointer (some ⟨g,n,none⟩)))
   | _=>none
  | _=>none
 | none=>none
def MS {α:Type} (x:X) (f:Nat→vo α):Nat→Nat→Facts→vo α
 | 0,_,_=>.stuck "index"
 | m+1,j,fc=>match BN fc (.bin .eql .i64 x (.lit (.ofNat j))) with
  | some true=>f j
  | some false=>MS x f m (Nat.succ j) fc
  | none=>.ite (.bin .eql .i64 x (.lit (.ofNat j))) (f j) (MS x f m (Nat.succ j) (MM fc (.bin .eql .i64 x (.lit (.ofNat j))) false))
def KC {α:Type} (fc:Facts) (x:X) (len:Nat) (f:Nat→vo α):vo α:=match x with
 | .lit (.ofNat j)=>match Nat.blt j len with|true=>f j|false=>.stuck "index: out of range"
 | .lit (.negSucc _)=>.stuck "index: below 0"
 | x=>MS x f len 0 fc
theorem W9 {α:Type} {Φ:yY} {s:vS} {x:X} {f:Nat→vo α} {a:α} : ∀ (m j:Nat) (fc:Facts),xC s fc→(MS x f m j fc).path Φ s=some a→∃ i,j≤i∧i<j+m∧x.den s=i∧(f i).path Φ s=some a
 | 0,j,fc,hf,h=>by cases h
 | m+1,j,fc,hf,h=>by
  have eqj:((X.bin .eql .i64 x (.lit (.ofNat j))).den s != 0)=true→x.den s=(j:Int):=fun hq=>by
   simp only[X.den,vX,yN] at hq;simpa using hq
  have ite:(vo.ite (.bin .eql .i64 x (.lit (.ofNat j))) (f j) (MS x f m (Nat.succ j) (MM fc (.bin .eql .i64 x (.lit (.ofNat j))) false))).path Φ s=some a→∃ i,j≤i∧i<j+(m+1)∧x.den s=i∧(f i).path Φ s=some a:=fun h=>by
   simp only[vo.path] at h
   split at h
   ·rename_i hc
    obtain⟨i,h1,h2,h3,h4⟩:=W9 m (j+1) _ (WI hf (by rw[hc];rfl)) h
    exact⟨i,by omega,by omega,h3,h4⟩
   ·rename_i hne
    exact⟨j,Nat.le_refl _,by omega,eqj (by simpa using hne),h⟩
  simp only[MS] at h
  split at h
  ·rename_i hd;exact⟨j,Nat.le_refl _,by omega,eqj (Cf hf hd),h⟩
  ·obtain⟨i,h1,h2,h3,h4⟩:=W9 m (j+1) fc hf h
   exact⟨i,by omega,by omega,h3,h4⟩
  ·exact ite h
theorem Qp {α:Type} {Φ:yY} {s:vS} {fc:Facts} (hf:xC s fc) {x:X} {len:Nat} {f:Nat→vo α} {a:α} (h:(KC fc x len f).path Φ s=some a):∃ i,i<len∧x.den s=(i:Int)∧(f i).path Φ s=some a:=by
 unfold KC at h
 split at h
 ·rename_i j
  split at h
  ·rename_i hb
   exact⟨j,by simpa [Nat.blt_eq] using hb,rfl,h⟩
  ·cases h
 ·cases h
 ·obtain⟨i,_,h2,h3,h4⟩:=W9 _ _ _ hf h
  exact⟨i,by omega,h3,h4⟩
def Xc (P:Program) (fc:Facts) (t:TypeId) (x i:SV):vo SR:=match i with
 | .int _ n=>match x with
  | .loc b o=>match Cu P t with
   | some (len,el)=>match xU P el with
    | some sz=>KC fc n len fun j=>yO (o+j*sz) fun q=>one (.loc b q)
    | none=>.stuck "indexAddr: size"
   | none=>.stuck "indexAddr: no array"
  | .v (.pointer (some ⟨g,o,none⟩))=>match Cu P t with
   | some (len,el)=>match xU P el with
    | some sz=>KC fc n len fun j=>yO (o+j*sz) fun q=>one (.v (.pointer (some ⟨g,q,none⟩)))
    | none=>.stuck "indexAddr: size"
   | none=>.stuck "indexAddr: no array"
  | .sl b o len _=>match FZ P t with
   | some el=>match xU P el with
    | some sz=>KC fc n len fun j=>yO (o+j*sz) fun q=>one (.loc b q)
    | none=>.stuck "indexAddr: size"
   | none=>.stuck "indexAddr: no slice"
  | _=>.stuck "indexAddr"
 | _=>.stuck "indexAddr: index"
def Xd (P:Program) (fc:Facts) (t:TypeId) (x i:SV):vo SR:=match i with
 | .int _ n=>match x with
  | .agg l=>match Cu P t with
   | some (len,el)=>match xU P el with
    | some sz=>KC fc n len fun j=>MR "index: cells" (H8 P el l (j*sz))
    | none=>.stuck "index: size"
   | none=>.stuck "index: no array"
  | .v (.agg cs)=>match Cu P t with
   | some (len,el)=>match xU P el with
    | some sz=>KC fc n len fun j=>MR "index: cells" (H8 P el (cs.toList.map Bp) (j*sz))
    | none=>.stuck "index: size"
   | none=>.stuck "index: no array"
  | _=>.stuck "index"
 | _=>.stuck "index: index"
def Xe (x:SV) (i:Nat):Option SV:=match x with
 | .v (.tuple vs)=>match vs.toList[i]? with|some v=>some (Bp v)|none=>none
 | .tup l=>l[i]?
 | _=>none
def MU (place:Nat→Option (Nat×Nat)) (cells:List SV):List (Nat×SV)→Option (List SV)
 | []=>some cells
 | (i,x)::rest=>match place i with
  | none=>none
  | some (off,size)=>match Nat.beq (cellsS x).length size,Nat.ble (off+size) cells.length with
   | true,true=>F7 (cells.take off++cellsS x++cells.drop (off+size)) fun c=>MU place c rest
   | _,_=>none
def Td (s:vS) (l:List (Nat×SV)):List (Nat×AV):=l.map fun x=>(x.1,x.2.den s)
theorem Xf {place:Nat→Option (Nat×Nat)} (s:vS):∀ {ps:List (Nat×SV)} {cells c:List SV},MU place cells ps=some c→Ep place (SV.dens s cells) (Td s ps)=some (SV.dens s c)
 | [],cells,c,h=>by simp only[MU,Option.some.injEq] at h;subst h;rfl
 | (i,x)::rest,cells,c,h=>by
  simp only[MU] at h
  simp only[Td,List.map_cons,Ep]
  split at h
  ·cases h
  ·rename_i off size hp
   rw[hp]
   simp only
   split at h
   ·rename_i h1 h2
    rw[Ji] at h
    have h1:=wR.1 h1;have h2:=Nat.le_of_ble_eq_true h2
    rw[if_pos ⟨by rw[← MQ,DU];exact h1,by rw[DU];exact h2⟩]
    have:=Xf s h
    rw[Jp,Jp,WU,WV,MQ] at this
    exact this
   ·cases h
def MV (ρ:Operand→Option SV):List (Nat×Operand)→Option (List (Nat×SV))
 | []=>some []
 | (i,x)::l=>match ρ x,MV ρ l with
  | some a,some r=>some ((i,a)::r)
  | _,_=>none
theorem Xg {s:vS} {ρ:Operand→Option SV} {ρ':Operand→Option AV} (hρ:RD s ρ ρ'):∀ {l:List (Nat×Operand)} {r:List (Nat×SV)},MV ρ l=some r→Cv ρ' l=some (Td s r)
 | [],r,h=>by simp only[MV,Option.some.injEq] at h;subst h;rfl
 | (i,x)::l,r,h=>by
  simp only[MV] at h
  split at h
  ·rename_i a r' ha hr
   cases h
   rw[Cv,hρ x a ha,Xg hρ hr];rfl
  ·cases h
def KD (ρ:Operand→Option SV):List Operand→Option (List SV)
 | []=>some []
 | x::l=>match ρ x,KD ρ l with
  | some a,some r=>some (a::r)
  | _,_=>none
theorem Tf {s:vS} {ρ:Operand→Option SV} {ρ':Operand→Option AV} (hρ:RD s ρ ρ'):∀ {l:List Operand} {r:List SV},KD ρ l=some r→BG ρ' l=some (SV.dens s r)
 | [],r,h=>by simp only[KD,Option.some.injEq] at h;subst h;rfl
 | x::l,r,h=>by
  simp only[KD] at h
  split at h
  ·rename_i a r' ha hr
   cases h
   rw[BG,hρ x a ha,Tf hρ hr];rfl
  ·cases h
abbrev MW:=TypeId→SV→SV→Option X
def Ti (P:Program) (SE:MW) (E:xK):Prop:=∀ t x y r (s:vS),SE t x y=some r→∃ a b,x.den s = .v a∧y.den s = .v b∧Aq P .eql t a b=none∧Aq P .neq t a b=none∧E .eql t a b=some (.bool (r.den s != 0))∧E .neq t a b=some (.bool (!(r.den s != 0)))
def Jq (fc:Facts) (w:String) (c:X) (t:vo SR):vo SR:=match BN fc c with
 | some true=>.stuck w
 | some false=>t
 | none=>ML c (.stuck w) t
def Xh (fc:Facts) (op:BinOp) (k k':IntKind) (a b:X):vo SR:=match op with
 | .shl=>match X.inK k' b,k'.signed with
  | true,false=>yV (yP .shl k a b) fun x=>one (.int k x)
  | _,_=>Jq fc "shift below 0" (yP .lss k' b (.lit (.ofNat 0))) (yV (yP .shl k a b) fun x=>one (.int k x))
 | .shr=>match X.inK k' b,k'.signed with
  | true,false=>yV (yP .shr k a b) fun x=>one (.int k x)
  | _,_=>Jq fc "shift below 0" (yP .lss k' b (.lit (.ofNat 0))) (yV (yP .shr k a b) fun x=>one (.int k x))
 | .quo=>match zT k k' with
  | true=>Jq fc "by 0" (yP .eql k' b (.lit (.ofNat 0))) (yV (yP .quo k a b) fun x=>one (.int k x))
  | false=>.stuck "kinds"
 | .rem=>match zT k k' with
  | true=>Jq fc "by 0" (yP .eql k' b (.lit (.ofNat 0))) (yV (yP .rem k a b) fun x=>one (.int k x))
  | false=>.stuck "kinds"
 | .add | .sub | .mul | .and | .or | .xor | .andNot=>match zT k k' with
  | true=>yV (yP op k a b) fun x=>one (.int k x)
  | false=>.stuck "kinds"
 | .eql | .neq | .lss | .leq | .gtr | .geq=>match zT k k' with
  | true=>yV (yP op k a b) fun x=>one (.bool x)
  | false=>.stuck "kinds"
def Xi (P:Program) (SE:MW) (fc:Facts) (op:BinOp) (t:TypeId) (x y:SV):vo SR:=match x,y with
 | .int k a,.int k' b=>Xh fc op k k' a b
 | .bool a,.bool b=>match P.underlying t with
  | some .bool=>match op with
   | .eql=>yV (SI a b) fun x=>one (.bool x)
   | .neq=>yV (mkNot (SI a b)) fun x=>one (.bool x)
   | _=>.stuck "binOp: bools"
  | _=>.stuck "binOp: bool type"
 | x,y=>match op with
  | .eql=>match SE t x y with|some r=>yV r fun r=>one (.bool r)|none=>.stuck "eql"
  | .neq=>match SE t x y with|some r=>yV (mkNot r) fun r=>one (.bool r)|none=>.stuck "neq"
  | _=>.stuck "binOp"
def Xj (op:UnOp) (x:SV):vo SR:=match op,x with
 | .neg,.int k a=>yV (yP .sub k (.lit (.ofNat 0)) a) fun x=>one (.int k x)
 | .xor,.int k a=>yV (SG k a) fun x=>one (.int k x)
 | .not,.bool a=>yV (mkNot a) fun x=>one (.bool x)
 | _,_=>.stuck "unOp"
def Xk (P:Program) (src dst:TypeId) (x:SV):vo SR:=match x with
 | .int _ a=>match Me P dst,P.underlying src with
  | some k,some _=>yV (WB k a) fun x=>one (.int k x)
  | _,_=>.stuck "convert: type"
 | _=>.stuck "convert"
def Xm (x:SV):vo SR:=match x with
 | .loc b o=>one (.loc b o)
 | .v (.func (.func f) a c)=>one (.v (.func (.func f) a c))
 | .v (.pointer (some p))=>one (.v (.pointer (some p)))
 | .fn (.func f) a c=>one (.fn (.func f) a c)
 | _=>.stuck "nilCheck"
def sLen (P:Program) (t:TypeId) (H:SH) (x:SV):vo SR:=match P.underlying t with
 | some (.slice _)=>match x with
  | .hd k=>match hget H k with
   | some ⟨[.int _ x],none⟩=>.leaf (.int .i64 (.dlen x),[k],[])
   | some ⟨c,none⟩=>match CO c,Dn c with
    | none,some r=>yV (SK r.n (.lit (.ofNat 0))) fun x=>.leaf (.int .i64 x,[k],[])
    | _,_=>.stuck "len: handle"
   | _=>.stuck "len: handle"
  | .sl _ _ n _=>one (.int .i64 (.lit (.ofNat n)))
  | .v (.slice _ n _)=>one (.int .i64 (.lit (.ofNat n)))
  | _=>.stuck "len: slice"
 | some .string=>match x with | .v (.string s)=>yO s.size fun n=>one (.int .i64 (.lit (.ofNat n)))|_=>.stuck "len: string"
 | some (.array n _)=>one (.int .i64 (.lit (.ofNat n)))
 | _=>.stuck "len"
def Xn (P:Program) (t:TypeId) (x:SV):vo SR:=match Cu P t with
 | some (n,_)=>match x with
  | .sl b o len _=>match Nat.ble n len with|true=>one (.loc b o)|false=>.stuck "arrayAt: len"
  | _=>.stuck "arrayAt"
 | none=>.stuck "arrayAt: no array"
def Xo (P:Program) (t:TypeId) (k:Nat) (x y:SV):vo SR:=match x,y with
 | .int _ (.lit (.ofNat n)),.int _ (.lit (.ofNat m))=>match FZ P t with
  | some el=>match xU P el,EW P el,VI P el with
   | some sz,some z,some b=>match Nat.ble n m,Nat.blt m 16777216,Nat.ble b 4096,Nat.beq (m*sz) 0 with
    | true,true,true,false=>F7 ((Hg z (m*sz)).map Bp) fun c=>.leaf (.sl k 0 n m,[],[(k,⟨c,some el⟩)])
    | _,_,_,_=>.stuck "makeSlice: size"
   | _,_,_=>.stuck "makeSlice: type"
  | none=>.stuck "makeSlice: no slice"
 | _,_=>.stuck "makeSlice"
def Xp (P:Program) (t:TypeId) (x:SV):vo SR:=match Cu P t with
 | some (n,el)=>match x,xU P el with
  | .loc b o,some _=>one (.sl b o n n)
  | _,_=>.stuck "slice"
 | none=>.stuck "slice: no array"
def Xq (P:Program) (t:TypeId) (len:Nat) (k:Nat) (ps:List (Nat×SV)):vo SR:=match FZ P t with
 | some el=>match xU P el,EW P el with
  | some sz,some z=>match Nat.ble (len*sz) 16777216,Nat.beq (len*sz) 0 with
   | true,false=>match MU (fun i=>some (i*sz,sz)) ((Hg z (len*sz)).map Bp) ps with
    | some c=>.leaf (.sl k 0 len len,[],[(k,⟨c,some el⟩)])
    | none=>.stuck "buildSlice: parts"
   | _,_=>.stuck "buildSlice: size"
  | _,_=>.stuck "buildSlice: type"
 | none=>.stuck "buildSlice"
def o1 (ρ:Operand→Option SV) (x:Operand) (f:SV→vo SR):vo SR:=match ρ x with|some a=>f a|none=>.stuck "operand"
def o2 (ρ:Operand→Option SV) (x y:Operand) (f:SV→SV→vo SR):vo SR:=match ρ x with
 | some a=>match ρ y with|some b=>f a b|none=>.stuck "operand"
 | none=>.stuck "operand"
def Xr (P:Program) (G:wD) (SE:MW) (fc:Facts) (op:Op) (ρ:Operand→Option SV) (H:SH) (k:Nat):vo SR :=
 match op with
 | .move x=>o1 ρ x one
 | .assign x=>o1 ρ x one
 | .pick c a b=>o1 ρ c fun v=>match v with
  | .bool q=>ML q (o1 ρ a one) (o1 ρ b one)
  | _=>.stuck "pick"
 | .alloc t=>match EW P t with|some z=>F7 (z.map Bp) fun c=>.leaf (.loc k 0,[],[(k,⟨c,some t⟩)])|none=>.stuck "alloc"
 | .box t x=>o1 ρ x fun a=>F7 (cellsS a) fun c=>.leaf (.loc k 0,[],[(k,⟨c,some t⟩)])
 | .build t ps=>match MV ρ ps.toList,EW P t with
  | some l,some z=>match Sj P t with
   | true=>match MU (P5 P t) (z.map Bp) l with|some c=>one (.agg c)|none=>.stuck "build: parts"
   | false=>.stuck "build: sizes"
  | _,_=>.stuck "build"
 | .buildSlice t len ps=>match MV ρ ps.toList with|some l=>Xq P t len k l|none=>.stuck "buildSlice: operands"
 | .load t x=>o1 ρ x fun a=>WW P G t H a
 | .store t x y=>o2 ρ x y fun a b=>WX P t H a b
 | .nilCheck x=>o1 ρ x Xm
 | .binOp op t x y _=>o2 ρ x y fun a b=>Xi P SE fc op t a b
 | .unOp op _ x=>o1 ρ x fun a=>Xj op a
 | .convert s d x=>o1 ρ x fun a=>Xk P s d a
 | .makeFunc f a c=>match KD ρ a.toList,KD ρ c.toList with|some x,some y=>one (.fn f x y)|_,_=>.stuck "makeFunc"
 | .fieldAddr t x f=>o1 ρ x fun a=>MR "fieldAddr" (WZ P t f a)
 | .field t x f=>o1 ρ x fun a=>MR "field" (WY P t f a)
 | .indexAddr t x i=>o2 ρ x i fun a b=>Xc P fc t a b
 | .index t x i=>o2 ρ x i fun a b=>Xd P fc t a b
 | .extract x i=>o1 ρ x fun a=>MR "extract" (Xe a i)
 | .call { callee:=.builtin .len,args:=args,argTypes:=ts }=>match args.toList,ts.toList with
  | [x],[t]=>o1 ρ x fun a=>sLen P t H a
  | _,_=>.stuck "len: operands"
 | .call { callee:=.builtin .min,args:=args,argTypes:=_ }=>match args.toList with
  | [x,y]=>o2 ρ x y fun a b=>match a,b with
   | .int k a,.int _ b=>yV (WE a b) fun x=>one (.int k x)
   | _,_=>.stuck "min"
  | _=>.stuck "min: operands"
 | .call { callee:=.builtin .max,args:=args,argTypes:=_ }=>match args.toList with
  | [x,y]=>o2 ρ x y fun a b=>match a,b with
   | .int k a,.int _ b=>yV (SK a b) fun x=>one (.int k x)
   | _,_=>.stuck "max"
  | _=>.stuck "max: operands"
 | .sliceToArrayPointer t x=>o1 ρ x fun a=>Xn P t a
 | .makeSlice t x y=>o2 ρ x y fun a b=>Xo P t k a b
 | .slice t x none none none=>o1 ρ x fun a=>Xp P t a
 | _=>.stuck "no such operation"
open Go.RowKit
theorem SH.den_get {s:vS} {H:SH} {k:Nat} {o:SO} {t:TypeId} (h:hget H k=some o) (ht:o.t=some t):SH.den s H k=some (.own (SV.dens s o.c) t):=by unfold SH.den;rw[h,Option.map_some,SO.den_own s ht]
theorem SH.den_nat {s:vS} {H:SH} {k:Nat} {o:SO} (h:hget H k=some o) (ht:o.t=none) (hm:CO o.c=none) (ho:Dn o.c=none):SH.den s H k=some (.rd (Fe ((H7 o.c).den s).toNat) (H6 ((H7 o.c).den s).toNat)):=by unfold SH.den;rw[h,Option.map_some,SO.den_nat s ht hm ho]
theorem SH.den_ora {s:vS} {H:SH} {k:Nat} {o:SO} {r:Qn} (h:hget H k=some o) (ht:o.t=none) (hm:CO o.c=none) (ho:Dn o.c=some r):SH.den s H k=some (.rd (r.n.den s).toNat (Bq s r.b r.ks (r.n.den s).toNat)):=by unfold SH.den;rw[h,Option.map_some,SO.den_ora s ht hm ho]
theorem SH.den_map {s:vS} {H:SH} {k:Nat} {o:SO} {es:List (Value×Value)} (h:hget H k=some o) (ht:o.t=none) (hm:CO o.c=some es):SH.den s H k=some (.mp es):=by unfold SH.den;rw[h,Option.map_some,SO.den_map s ht hm]
section
variable {P:Program} {G:wD} {SE:MW} {E:xK} {Φ:yY} {s:vS} {r:SR} {fc:Facts}
theorem EC {a:SV} (h:(one a).path Φ s=some r):r=(a,[],[]):=by cases h;rfl
theorem Qq {w:String} {x:Option SV} (h:(MR w x).path Φ s=some r):∃ a,x=some a∧r=(a,[],[]):=by
 cases x with
 | none=>cases h
 | some a=>cases h;exact⟨a,rfl,rfl⟩
theorem Cg {ρ:Operand→Option SV} {x:Operand} {f:SV→vo SR} (h:(o1 ρ x f).path Φ s=some r):∃ a,ρ x=some a∧(f a).path Φ s=some r:=by
 unfold o1 at h;split at h
 ·rename_i a ha;exact⟨a,ha,h⟩
 ·cases h
theorem KE {ρ:Operand→Option SV} {x y:Operand} {f:SV→SV→vo SR} (h:(o2 ρ x y f).path Φ s=some r):∃ a b,ρ x=some a∧ρ y=some b∧(f a b).path Φ s=some r:=by
 unfold o2 at h;split at h
 ·rename_i a ha
  split at h
  ·rename_i b hb;exact⟨a,b,ha,hb,h⟩
  ·cases h
 ·cases h
theorem DV {x:X} {k:X→vo SR} (h:(yV x k).path Φ s=some r):(k x).path Φ s=some r:=by rwa [akb] at h
theorem aks {t:TypeId} {H:SH} {a:SV} (h:(WW P G t H a).path Φ s=some r):BF P G t (SH.den s H) (a.den s)=some (r.1.den s,r.2.1,wY s r.2.2):=by
 unfold WW at h
 split at h
 ·rename_i b off
  split at h
  ·rename_i o ho
   split at h
   ·rename_i t0 ht
    split at h
    ·rename_i r' hr
     cases h
     simp only[SV.den,BF,SH.den_get ho ht,KA s hr];rfl
    ·cases h
   ·cases h
  ·cases h
 ·rename_i g off
  split at h
  ·rename_i c hc
   split at h
   ·rename_i r' hr
    cases h
    have:=KA s hr
    rw[EA] at this
    simp only[SV.den,BF,hc,this];rfl
   ·cases h
  ·cases h
 ·cases h
theorem akt {t:TypeId} {H:SH} {x y:SV} (h:(WX P t H x y).path Φ s=some r):He P t (SH.den s H) (x.den s) (y.den s)=some (r.1.den s,r.2.1,wY s r.2.2):=by
  unfold WX at h
  split at h
  · rename_i b off
    split at h
    · cases h
    · rename_i o hno ho
      obtain⟨t0,ht⟩:∃ t0,o.t=some t0:=by
        obtain⟨c,t0⟩:=o
        cases t0 with
        | none=>exact absurd rfl (hno c)
        | some t0=>exact⟨t0,rfl⟩
      split at h
      · rename_i n h1 hn
        split at h
        · rename_i h2 h3
          rw[Ji] at h
          cases h
          have h2:=wR.1 h2;have h3:=Nat.le_of_ble_eq_true h3
          have hl:(xV (y.den s)).length=(cellsS y).length:=by rw[← MQ,DU]
          have ha:(xV (y.den s)).all Km=true:=by
            rw[← MQ,SV.dens_map,List.all_map,List.all_eq_true]
            intro z hz
            exact akr (List.all_eq_true.1 h1 z hz)
          simp only[SV.den,He,SH.den_get ho ht]
          rw[if_pos (by
            simp only[Bool.and_eq_true,decide_eq_true_eq];refine⟨⟨ha,?_⟩,?_⟩
            · rw[hl,hn,h2]
            · rw[hl,DU];exact h3)]
          congr 3
          simp only[wY,List.map_cons,List.map_nil,ht,SO.den,acD,Jp,WU,WV,MQ,← hl]
        · cases h
      · cases h
    · cases h
  · cases h
theorem aku {t:TypeId} {l:List AV} {f off:Nat} {ft:TypeId} (hf:FY P t f=some (off,ft)):Ja P t f (Ap l)=zQ P ft l off:=by
 have hc:=Qo l
 unfold Ap at hc ⊢
 cases h:yf l with
 | none=>simp only[Ja,hf,xV]
 | some vs =>
  rw[h] at hc
  simp only[Ja,hf]
  rw[hc]
theorem akv {t:TypeId} {f:Nat} {x a:SV} (h:WY P t f x=some a):Ja P t f (x.den s)=some (a.den s):=by
 unfold WY at h
 split at h
 ·rename_i l
  split at h
  ·rename_i off ft hf
   simp only[SV.den]
   rw[aku hf,KA s h]
  ·cases h
 ·rename_i cs
  split at h
  ·rename_i off ft hf
   have:=KA s h
   rw[EA] at this
   simp only[SV.den,Ja,hf,xV,Value.cells]
   exact this
  ·cases h
 ·cases h
theorem akw {t:TypeId} {f:Nat} {x a:SV} (h:WZ P t f x=some a):Jb P t f (x.den s)=some (a.den s):=by
 unfold WZ at h
 unfold Jb
 split at h
 ·rename_i off ft hf
  rw[hf]
  simp only
  split at h
  ·rename_i n hs
   rw[hs]
   simp only
   split at h
   ·rw[yw] at h;cases h;rfl
   ·rw[yw] at h;cases h;rfl
   ·cases h
  ·cases h
 ·cases h
theorem akx (hf:xC s fc) {t:TypeId} {H:vE} {x i:SV} (h:(Xc P fc t x i).path Φ s=some r):Dg (DR P t H (x.den s) (i.den s))=some (r.1.den s,r.2.1,wY s r.2.2):=by
 unfold Xc at h
 split at h
 ·rename_i k n
  split at h
  ·rename_i b o
   split at h
   ·rename_i len el ha
    split at h
    ·rename_i sz hs
     obtain⟨j,h1,h2,h3⟩:=Qp hf h
     rw[yw] at h3;cases h3
     simp only[SV.den,DR,ha,hs,h2]
     rw[if_pos ⟨by omega,by omega⟩];rfl
    ·cases h
   ·cases h
  ·rename_i g o
   split at h
   ·rename_i len el ha
    split at h
    ·rename_i sz hs
     obtain⟨j,h1,h2,h3⟩:=Qp hf h
     rw[yw] at h3;cases h3
     simp only[SV.den,DR,ha,hs,h2]
     rw[if_pos ⟨by omega,by omega⟩];rfl
    ·cases h
   ·cases h
  ·rename_i b o len cap
   split at h
   ·rename_i el ha
    split at h
    ·rename_i sz hs
     obtain⟨j,h1,h2,h3⟩:=Qp hf h
     rw[yw] at h3;cases h3
     simp only[SV.den,DR,ha,hs,h2]
     rw[if_pos ⟨by omega,by omega⟩];rfl
    ·cases h
   ·cases h
  ·cases h
 ·cases h
theorem aky {t:TypeId} {l:List AV} {k:IntKind} {n:Int} {len el sz:Nat} (ha:Cu P t=some (len,el)) (hs:xU P el=some sz) (hn:0≤n∧n<len):Jc P t (Ap l) (.v (.int k n))=zQ P el l (n.toNat*sz):=by
 have hc:=Qo l
 unfold Ap at hc ⊢
 cases h:yf l with
 | none=>simp only[Jc,ha,hs,if_pos hn]
 | some vs =>
  rw[h] at hc
  simp only[xV,Value.cells] at hc
  simp only[Jc,ha,hs,if_pos hn]
  rw[hc]
theorem akz (hf:xC s fc) {t:TypeId} {x i:SV} (h:(Xd P fc t x i).path Φ s=some r):wt (Jc P t (x.den s) (i.den s))=some (r.1.den s,r.2.1,wY s r.2.2):=by
 unfold Xd at h
 split at h
 ·rename_i k n
  split at h
  ·rename_i l
   split at h
   ·rename_i len el ha
    split at h
    ·rename_i sz hs
     obtain⟨j,h1,h2,h3⟩:=Qp hf h
     obtain⟨a,h4,rfl⟩:=Qq h3
     simp only[SV.den]
     rw[aky ha hs (by rw[h2];omega),h2,show((j:Int)).toNat=j by simp,KA s h4];rfl
    ·cases h
   ·cases h
  ·rename_i cs
   split at h
   ·rename_i len el ha
    split at h
    ·rename_i sz hs
     obtain⟨j,h1,h2,h3⟩:=Qp hf h
     obtain⟨a,h4,rfl⟩:=Qq h3
     have:=KA s h4
     rw[EA] at this
     simp only[SV.den,Jc,ha,hs,h2]
     rw[if_pos ⟨by omega,by omega⟩,show((j:Int)).toNat=j by simp,this];rfl
    ·cases h
   ·cases h
  ·cases h
 ·cases h
theorem akA {x a:SV} {i:Nat} (h:Xe x i=some a):Mh (x.den s) i=some (a.den s):=by
 unfold Xe at h
 split at h
 ·rename_i vs
  split at h
  ·rename_i v hv
   cases h
   simp only[SV.den,Mh,hv,WR]
  ·cases h
 ·rename_i l
  have:=acC s h
  simp only[SV.den]
  unfold Bn
  cases hv:yf (SV.dens s l) with
  | none=>exact this
  | some vs =>
   have h2:=I9 (e:=⟨fun _=>0,fun _=>undef⟩) hv
   have h3:SV.dens s l=vs.map .v:=by
    have h4:=Qo (SV.dens s l)
    unfold Ap at h4;rw[hv] at h4
    simpa [xV,Value.cells] using h4.symm
   rw[h3] at this
   simp only[Mh]
   rw[List.getElem?_map] at this
   cases hg:vs[i]? with
   | none=>rw[hg] at this;cases this
   | some v=>rw[hg] at this;simp only[List.getElem?_toArray,List.toList_toArray,hg];exact this
 ·cases h
theorem akB {c:X} {w:String} {b:vo SR} (h:(ML c (.stuck w) b).path Φ s=some r):c.den s=0∧b.path Φ s=some r:=by
 rw[WG] at h
 split at h
 ·rename_i hc;exact⟨hc,h⟩
 ·cases h
theorem acE {b:Bool} (h:vw b=0):b=false:=by cases b<;>first|rfl|cases h
theorem akC {k:IntKind} (hk:k.signed=false) (n:Int):0≤k.wrap n:=by
 unfold IntKind.wrap IntKind.bits;cases k<;>first|(cases hk;done)|(simp[IntKind.signed];omega)
theorem acF (hf:xC s fc) {w:String} {c:X} {t:vo SR} (h:(Jq fc w c t).path Φ s=some r):c.den s=0∧t.path Φ s=some r:=by
 unfold Jq at h
 split at h
 ·cases h
 ·rename_i hd
  have:=Cf hf hd
  exact⟨by simpa using this,h⟩
 ·exact akB h
theorem akD (hf:xC s fc) {t:TypeId} {op:BinOp} {k k':IntKind} {a b:X} (h:(Xh fc op k k' a b).path Φ s=some r):∃ v,Aq P op t (.int k (a.den s)) (.int k' (b.den s))=some v ∧ .v v=r.1.den s∧r.2=([],[]):=by
 have ar:∀ {op':BinOp},(yV (yP op' k a b) fun x=>one (.int k x)).path Φ s=some r→AV.v (.int k (vX op' k (a.den s) (b.den s)))=r.1.den s∧r.2=([],[]):=fun h=>by
  have h:=EC (DV h);subst h
  exact⟨by simp only[SV.den,Jk],rfl⟩
 have cm:∀ {op':BinOp},(yV (yP op' k a b) fun x=>one (.bool x)).path Φ s=some r→AV.v (.bool (vX op' k (a.den s) (b.den s) != 0))=r.1.den s∧r.2=([],[]):=fun h=>by
  have h:=EC (DV h);subst h
  exact⟨by simp only[SV.den,Jk],rfl⟩
 have nn:∀ {op':BinOp},(match X.inK k' b,k'.signed with
   | true,false=>yV (yP op' k a b) fun x=>one (.int k x)
   | _,_=>Jq fc "shift below 0" (yP .lss k' b (.lit (.ofNat 0))) (yV (yP op' k a b) fun x=>one (.int k x))).path Φ s=some r →
   ¬ b.den s<0∧(yV (yP op' k a b) fun x=>one (.int k x)).path Φ s=some r:=fun h=>by
  split at h
  ·rename_i h1 h2
   refine⟨?_,h⟩
   rw[← X.inK_ok s h1];have:=akC h2 (b.den s);omega
  ·obtain⟨h1,h2⟩:=acF hf h
   refine⟨?_,h2⟩
   rw[Jk] at h1
   have:=acE h1
   intro hc
   simp only[decide_eq_false_iff_not] at this
   exact this hc
 have nz:∀ {op':BinOp},(Jq fc "by 0" (yP .eql k' b (.lit (.ofNat 0))) (yV (yP op' k a b) fun x=>one (.int k x))).path Φ s=some r →
   b.den s≠0∧(yV (yP op' k a b) fun x=>one (.int k x)).path Φ s=some r:=fun h=>by
  obtain⟨h1,h2⟩:=acF hf h
  refine⟨?_,h2⟩
  rw[Jk] at h1
  have:=acE h1
  intro hc;rw[hc] at this;cases this
 cases op<;>simp only[Xh] at h
 case shl =>
  obtain⟨h1,h2⟩:=nn h
  exact⟨_,by simp only[Aq,if_neg h1];rfl,ar h2⟩
 case shr =>
  obtain⟨h1,h2⟩:=nn h
  exact⟨_,by simp only[Aq,if_neg h1];rfl,ar h2⟩
 case quo =>
  split at h
  ·rename_i hk
   have hk:=Be hk
   obtain⟨h1,h2⟩:=nz h
   exact⟨_,by simp only[Aq,if_pos (And.intro hk h1)];rfl,ar h2⟩
  ·cases h
 case rem =>
  split at h
  ·rename_i hk
   have hk:=Be hk
   obtain⟨h1,h2⟩:=nz h
   exact⟨_,by simp only[Aq,if_pos (And.intro hk h1)];rfl,ar h2⟩
  ·cases h
 all_goals
  split at h
  ·rename_i hk
   have hk:=Be hk
   first
    | exact⟨_,by simp only[Aq,if_pos hk,vX,acg],ar h⟩
    | exact⟨_,by simp only[Aq,if_pos hk,vX,yN],cm h⟩
  ·cases h
theorem akE (hSE:Ti P SE E) (hf:xC s fc) {t:TypeId} {op:BinOp} {x y:SV} (h:(Xi P SE fc op t x y).path Φ s=some r):wt (Jd P E op t (x.den s) (y.den s))=some (r.1.den s,r.2.1,wY s r.2.2):=by
 unfold Xi at h
 split at h
 ·rename_i k a k' b
  obtain⟨v,h1,h2,h3⟩:=akD (P:=P) hf (t:=t) h
  simp only[SV.den,Jd,h1,wt,h2,h3];rfl
 ·rename_i a b
  split at h
  ·rename_i hu
   split at h
   ·have h:=EC (DV h);subst h
    simp only[SV.den,Jd,Aq,hu,wt,acn,yN];rfl
   ·have h:=EC (DV h);subst h
    simp only[SV.den,Jd,Aq,hu,wt,WC,acn,yN];rfl
   ·cases h
  ·cases h
 ·rename_i hi hb
  have key:∀ u,SE t x y=some u→∃ a b,x.den s = .v a∧y.den s = .v b∧Aq P .eql t a b=none∧Aq P .neq t a b=none∧E .eql t a b=some (.bool (u.den s != 0))∧E .neq t a b=some (.bool (!(u.den s != 0))):=fun u hu=>hSE t x y u s hu
  split at h
  ·split at h
   ·rename_i u hu
    have h:=EC (DV h);subst h
    obtain⟨a,b,h1,h2,p1,p2,h3,h4⟩:=key u hu
    simp only[h1,h2,Jd,p1,h3,wt,SV.den];rfl
   ·cases h
  ·split at h
   ·rename_i u hu
    have h:=EC (DV h);subst h
    obtain⟨a,b,h1,h2,p1,p2,h3,h4⟩:=key u hu
    simp only[h1,h2,Jd,p2,h4,wt,SV.den,WC,yN];rfl
   ·cases h
  ·cases h
theorem akF {op:UnOp} {x:SV} (h:(Xj op x).path Φ s=some r):wt (Mi op (x.den s))=some (r.1.den s,r.2.1,wY s r.2.2):=by
 unfold Xj at h
 split at h
 ·have h:=EC (DV h);subst h
  simp only[SV.den,Mi,wt,Jk,vX];rfl
 ·have h:=EC (DV h);subst h
  simp only[SV.den,Mi,wt,acm,Qi,acg];rfl
 ·have h:=EC (DV h);subst h
  simp only[SV.den,Mi,wt,WC,yN];rfl
 ·cases h
theorem akG {src dst:TypeId} {x:SV} (h:(Xk P src dst x).path Φ s=some r):wt (Sk P src dst (x.den s))=some (r.1.den s,r.2.1,wY s r.2.2):=by
 unfold Xk at h
 split at h
 ·split at h
  ·rename_i k d hk hd
   have h:=EC (DV h);subst h
   simp only[SV.den,Sk,hk,hd,wt,ake];rfl
  ·cases h
 ·cases h
theorem akH (f:FuncId) (a c:List AV):Sl (Bo (.func f) a c)=some (Bo (.func f) a c):=by unfold Bo;split<;>rfl
theorem akI {x:SV} (h:(Xm x).path Φ s=some r):wt (Sl (x.den s))=some (r.1.den s,r.2.1,wY s r.2.2):=by
 unfold Xm at h
 split at h
 ·cases h;rfl
 ·cases h;rfl
 ·cases h;rfl
 ·cases h;simp only[SV.den,akH,wt];rfl
 ·cases h
theorem akJ {t:TypeId} {H:SH} {x:SV} (h:(sLen P t H x).path Φ s=some r):Dg (Cw P t (SH.den s H) (x.den s))=some (r.1.den s,r.2.1,wY s r.2.2):=by
 unfold sLen at h
 split at h
 ·rename_i el hu
  split at h
  ·rename_i k
   split at h
   ·rename_i kd x hk
    cases h;simp only[SV.den,Cw,hu,SH.den_nat hk rfl rfl rfl];rfl
   ·rename_i c _ hk
    split at h
    ·rename_i ro hm ho
     have h:=DV h
     cases h
     simp only[SV.den,Cw,hu,SH.den_ora hk rfl hm ho,Dg,aco,X.den]
     have e:((ro.n.den s).toNat:Int)=if Int.ofNat 0>ro.n.den s then Int.ofNat 0 else ro.n.den s:=by
      show _=if (0:Int)>ro.n.den s then(0:Int) else ro.n.den s
      split<;>omega
     rw[e];rfl
    ·cases h
   ·cases h
  ·cases h;simp only[SV.den,Cw,hu];rfl
  ·cases h;simp only[SV.den,Cw,hu];rfl
  ·cases h
 ·rename_i hu
  split at h
  ·rw[yw] at h;cases h;simp only[SV.den,Cw,hu];rfl
  ·cases h
 ·rename_i n el hu
  cases h;simp only[Cw,hu];rfl
 ·cases h
theorem akK {t:TypeId} {H:vE} {x:SV} (h:(Xn P t x).path Φ s=some r):Dg (Hl P t H (x.den s))=some (r.1.den s,r.2.1,wY s r.2.2):=by
 unfold Xn at h
 split at h
 ·rename_i n el ha
  split at h
  ·split at h
   ·rename_i hb
    cases h
    simp only[SV.den,Hl,ha,if_pos (Nat.le_of_ble_eq_true hb)];rfl
   ·cases h
  ·cases h
 ·cases h
theorem akL {t:TypeId} {k:Nat} {x y:SV} (h:(Xo P t k x y).path Φ s=some r):Mk P t k (x.den s) (y.den s)=some (r.1.den s,r.2.1,wY s r.2.2):=by
 unfold Xo at h
 split at h
 ·rename_i k1 n k2 m
  split at h
  ·rename_i el hel
   split at h
   ·rename_i sz z b hs hz hb
    split at h
    ·rename_i h1 h2 h3 h4
     rw[Ji] at h
     cases h
     have h1:=Nat.le_of_ble_eq_true h1
     have h2:m<16777216:=by simpa [Nat.blt_eq] using h2
     have h3:=Nat.le_of_ble_eq_true h3
     have h4:m*sz≠0:=fun e=>by rw[e] at h4;cases h4
     simp only[SV.den,X.den,Mk,hel,hs,hz,hb,Int.ofNat_eq_natCast]
     rw[if_pos ⟨by omega,by omega,by omega,h3,by simpa using h4⟩]
     simp only[wY,List.map_cons,List.map_nil,SO.den,EA,Int.ofNat_eq_natCast,Int.toNat_natCast]
    ·cases h
   ·cases h
  ·cases h
 ·cases h
theorem akM {t:TypeId} {x:SV} (h:(Xp P t x).path Φ s=some r):wt (P6 P t (x.den s))=some (r.1.den s,r.2.1,wY s r.2.2):=by
 unfold Xp at h
 split at h
 ·rename_i n el ha
  split at h
  ·rename_i b o sz hs
   cases h;simp only[SV.den,P6,ha,hs];rfl
  ·cases h
 ·cases h
theorem akN {t:TypeId} {len k:Nat} {ps:List (Nat×SV)} (h:(Xq P t len k ps).path Φ s=some r):Mj P t len k (Td s ps)=some (r.1.den s,r.2.1,wY s r.2.2):=by
 unfold Xq at h
 split at h
 ·rename_i el hel
  split at h
  ·rename_i sz z hs hz
   split at h
   ·rename_i h1 h2
    split at h
    ·rename_i c hc
     cases h
     have h1:=Nat.le_of_ble_eq_true h1
     have h2:len*sz≠0:=fun e=>by rw[e] at h2;cases h2
     have h3:=Xf s hc
     rw[EA] at h3
     simp only[Mj,hel,hs,hz,h3]
     rw[if_pos ⟨h1,h2⟩];rfl
    ·cases h
   ·cases h
  ·cases h
 ·cases h
theorem akO (hSE:Ti P SE E) (hf:xC s fc) {op:Op} {ρ:Operand→Option SV} {ρ':Operand→Option AV} (hρ:RD s ρ ρ') {H:SH} {k:Nat} (h:(Xr P G SE fc op ρ H k).path Φ s=some r) :
  wI P G E op ρ' (SH.den s H) k=some (r.1.den s,r.2.1,wY s r.2.2):=by
 unfold Xr at h
 split at h
 ·obtain⟨a,ha,h⟩:=Cg h;cases h;simp only[wI,hρ _ _ ha,wt];rfl
 ·obtain⟨a,ha,h⟩:=Cg h;cases h;simp only[wI,hρ _ _ ha,wt];rfl
 ·obtain⟨v,hv,h⟩:=Cg h
  split at h
  ·rename_i q
   rw[WG] at h
   have hq:=hρ _ _ hv
   split at h
   ·rename_i hc
    obtain⟨a,ha,h⟩:=Cg h;cases h
    simp only[wI,hq,SV.den,hc,bne_self_eq_false,Bool.false_eq_true,if_false,hρ _ _ ha,wt];rfl
   ·rename_i hc
    obtain⟨a,ha,h⟩:=Cg h;cases h
    have:(q.den s != 0)=true:=by simpa using hc
    simp only[wI,hq,SV.den,this,if_true,hρ _ _ ha,wt];rfl
  ·cases h
 ·split at h
  ·rename_i z hz
   rw[Ji] at h
   cases h;simp only[wI,hz,SV.den,wY,List.map_cons,List.map_nil,SO.den,EA]
  ·cases h
 ·obtain⟨a,ha,h⟩:=Cg h
  rw[Ji] at h
  cases h;simp only[wI,hρ _ _ ha,SV.den,wY,List.map_cons,List.map_nil,SO.den,MQ]
 ·split at h
  ·rename_i l z hl hz
   split at h
   ·rename_i hs
    split at h
    ·rename_i c hc
     cases h
     have h3:=Xf s hc
     rw[EA] at h3
     simp only[wI,Xg hρ hl,hz,hs,if_true,h3,SV.den];rfl
    ·cases h
   ·cases h
  ·cases h
 ·split at h
  ·rename_i l hl
   simp only[wI,Xg hρ hl];exact akN h
  ·cases h
 ·obtain⟨a,ha,h⟩:=Cg h;simp only[wI,hρ _ _ ha];exact aks h
 ·obtain⟨a,b,ha,hb,h⟩:=KE h;simp only[wI,hρ _ _ ha,hρ _ _ hb];exact akt h
 ·obtain⟨a,ha,h⟩:=Cg h;simp only[wI,hρ _ _ ha];exact akI h
 ·obtain⟨a,b,ha,hb,h⟩:=KE h;simp only[wI,hρ _ _ ha,hρ _ _ hb];exact akE hSE hf h
 ·obtain⟨a,ha,h⟩:=Cg h;simp only[wI,hρ _ _ ha];exact akF h
 ·obtain⟨a,ha,h⟩:=Cg h;simp only[wI,hρ _ _ ha];exact akG h
 ·split at h
  ·rename_i x y hx hy
   cases h;simp only[wI,Tf hρ hx,Tf hρ hy,SV.den];rfl
  ·cases h
 ·obtain⟨a,ha,h⟩:=Cg h
  obtain⟨b,hb,rfl⟩:=Qq h
  simp only[wI,hρ _ _ ha,akw hb,wt];rfl
 ·obtain⟨a,ha,h⟩:=Cg h
  obtain⟨b,hb,rfl⟩:=Qq h
  simp only[wI,hρ _ _ ha,akv hb,wt];rfl
 ·obtain⟨a,b,ha,hb,h⟩:=KE h;simp only[wI,hρ _ _ ha,hρ _ _ hb];exact akx hf h
 ·obtain⟨a,b,ha,hb,h⟩:=KE h;simp only[wI,hρ _ _ ha,hρ _ _ hb];exact akz hf h
 ·obtain⟨a,ha,h⟩:=Cg h
  obtain⟨b,hb,rfl⟩:=Qq h
  simp only[wI,hρ _ _ ha,akA hb,wt];rfl
 ·split at h
  ·rename_i x t hx ht
   obtain⟨a,ha,h⟩:=Cg h
   simp only[wI,hx,ht,hρ _ _ ha];exact akJ h
  ·cases h
 ·split at h
  ·rename_i x y hx
   obtain⟨a,b,ha,hb,h⟩:=KE h
   split at h
   ·have h:=EC (DV h);subst h
    simp only[wI,hx,hρ _ _ ha,hρ _ _ hb,SV.den,akg];rfl
   ·cases h
  ·cases h
 ·split at h
  ·rename_i x y hx
   obtain⟨a,b,ha,hb,h⟩:=KE h
   split at h
   ·have h:=EC (DV h);subst h
    simp only[wI,hx,hρ _ _ ha,hρ _ _ hb,SV.den,aco];rfl
   ·cases h
  ·cases h
 ·obtain⟨a,ha,h⟩:=Cg h;simp only[wI,hρ _ _ ha];exact akK h
 ·obtain⟨a,b,ha,hb,h⟩:=KE h;simp only[wI,hρ _ _ ha,hρ _ _ hb];exact akL h
 ·obtain⟨a,ha,h⟩:=Cg h;simp only[wI,hρ _ _ ha];exact akM h
 ·cases h
end
open Go.RowKit
mutual
def AV.ren (f:Nat→Nat):AV→AV
 | .v x=>.v x
 | .loc b off=>.loc (f b) off
 | .sl b off len cap=>.sl (f b) off len cap
 | .hd k=>.hd (f k)
 | .ha k off=>.ha (f k) off
 | .fn g a c=>.fn g (AV.rens f a) (AV.rens f c)
 | .tup l=>.tup (AV.rens f l)
 | .agg l=>.agg (AV.rens f l)
def AV.rens (f:Nat→Nat):List AV→List AV
 | []=>[]
 | x::l=>AV.ren f x::AV.rens f l
end
def AO.ren (f:Nat→Nat):AO→AO
 | .own c t=>.own (AV.rens f c) t
 | .rd n c=>.rd n c
 | .mp es=>.mp es
def acG (f:Nat→Nat) (e e':Env) (l:List Nat):Prop:=∀ r∈l,e'.blk (f r)=e.blk r∧e'.hnd (f r)=e.hnd r
mutual
theorem AV.ren_val {f:Nat→Nat} {e e':Env} : ∀ x:AV,acG f e e' x.refs→(x.ren f).val e'=x.val e
 | .v _,_=>rfl
 | .loc b off,h=>by simp only[AV.ren,AV.val];rw[(h b (by simp[AV.refs])).1]
 | .sl b off len cap,h=>by simp only[AV.ren,AV.val];rw[(h b (by simp[AV.refs])).1]
 | .hd k,h=>by simp only[AV.ren,AV.val];rw[(h k (by simp[AV.refs])).2]
 | .ha k off,h=>by simp only[AV.ren,AV.val];rw[(h k (by simp[AV.refs])).2]
 | .fn g a c,h=>by
  simp only[AV.ren,AV.val]
  rw[AV.rens_val a (fun r hr=>h r (by rw[AV.refs];exact List.mem_append_left _ hr)),AV.rens_val c (fun r hr=>h r (by rw[AV.refs];exact List.mem_append_right _ hr))]
 | .tup l,h=>by simp only[AV.ren,AV.val];rw[AV.rens_val l (fun r hr=>h r (by rw[AV.refs];exact hr))]
 | .agg l,h=>by simp only[AV.ren,AV.val];rw[AV.rens_val l (fun r hr=>h r (by rw[AV.refs];exact hr))]
theorem AV.rens_val {f:Nat→Nat} {e e':Env} : ∀ l:List AV,acG f e e' (AV.refss l)→AV.vals e' (AV.rens f l)=AV.vals e l
 | [],_=>rfl
 | x::l,h=>by
  rw[AV.rens,AV.vals,AV.vals,AV.ren_val x (fun r hr=>h r (by rw[AV.refss];exact List.mem_append_left _ hr)),AV.rens_val l (fun r hr=>h r (by rw[AV.refss];exact List.mem_append_right _ hr))]
end
mutual
theorem AV.ren_refs {f:Nat→Nat} : ∀ (x:AV) {r:Nat},r∈(x.ren f).refs→∃ q∈x.refs,r=f q
 | .v _,r,h=>by simp[AV.ren,AV.refs] at h
 | .loc b off,r,h=>by simp[AV.ren,AV.refs] at h;exact⟨b,by simp[AV.refs],h⟩
 | .sl b off len cap,r,h=>by simp[AV.ren,AV.refs] at h;exact⟨b,by simp[AV.refs],h⟩
 | .hd k,r,h=>by simp[AV.ren,AV.refs] at h;exact⟨k,by simp[AV.refs],h⟩
 | .ha k off,r,h=>by simp[AV.ren,AV.refs] at h;exact⟨k,by simp[AV.refs],h⟩
 | .fn g a c,r,h=>by
  simp only[AV.ren,AV.refs,List.mem_append] at h
  rcases h with h|h
  ·obtain⟨q,hq,e⟩:=AV.rens_refs a h;exact⟨q,by rw[AV.refs];exact List.mem_append_left _ hq,e⟩
  ·obtain⟨q,hq,e⟩:=AV.rens_refs c h;exact⟨q,by rw[AV.refs];exact List.mem_append_right _ hq,e⟩
 | .tup l,r,h=>by
  simp only[AV.ren,AV.refs] at h
  obtain⟨q,hq,e⟩:=AV.rens_refs l h;exact⟨q,by rw[AV.refs];exact hq,e⟩
 | .agg l,r,h=>by
  simp only[AV.ren,AV.refs] at h
  obtain⟨q,hq,e⟩:=AV.rens_refs l h;exact⟨q,by rw[AV.refs];exact hq,e⟩
theorem AV.rens_refs {f:Nat→Nat} : ∀ (l:List AV) {r:Nat},r∈AV.refss (AV.rens f l)→∃ q∈AV.refss l,r=f q
 | [],r,h=>by simp[AV.rens,AV.refss] at h
 | x::l,r,h=>by
  simp only[AV.rens,AV.refss,List.mem_append] at h
  rcases h with h|h
  ·obtain⟨q,hq,e⟩:=AV.ren_refs x h;exact⟨q,by rw[AV.refss];exact List.mem_append_left _ hq,e⟩
  ·obtain⟨q,hq,e⟩:=AV.rens_refs l h;exact⟨q,by rw[AV.refss];exact List.mem_append_right _ hq,e⟩
end
def F9 (src:Nat→Option Nat) (e e2:Env):Env:=⟨fun j=>match src j with|some n=>e2.blk n|none=>e.blk j,fun j=>match src j with|some n=>e2.hnd n|none=>e.hnd j⟩
theorem ED {src:Nat→Option Nat} {e e2:Env} {j n:Nat} (h:src j=some n):(F9 src e e2).blk j=e2.blk n∧(F9 src e e2).hnd j=e2.hnd n:=by
 unfold F9;simp only[h];exact⟨trivial,trivial⟩
theorem DW {src:Nat→Option Nat} {e e2:Env} {j:Nat} (h:src j=none):(F9 src e e2).blk j=e.blk j∧(F9 src e e2).hnd j=e.hnd j:=by
 unfold F9;simp only[h];exact⟨trivial,trivial⟩
theorem akP {G:wD} {w0:World} {B0:wX} {e:Env} {H':vE} {w:World} (R:wH G w0 B0 e H' w) {keys:List Nat} {B:wX} (hBd:B.dom=keys) (hBb:∀ b∈B.blks,∃ j∈keys,b=e.blk j) (hBe:B.env=e)
  {e2:Env} {Hc:vE} {w':World} (R2:wH G w B e2 Hc w') (hown:∀ j∈keys,∃ c t,H' j=some (.own c t)) {src:Nat→Option Nat} {f:Nat→Nat}
  (h1:∀ j n,src j=some n→f n=j∧∃ c t,Hc n=some (.own c t)∧∀ r∈AV.refss c,src (f r)=some r)
  (h2:∀ j∈keys,src j=some j) (h3:∀ j,j∉keys→src j≠none→H' j=none) {Hn:vE} (hn:∀ j,Hn j=match src j with|some n=>(Hc n).map (AO.ren f)|none=>H' j) :
  wH G w0 B0 (F9 src e e2) Hn w'∧Env.on H' e (F9 src e e2)∧∀ j,H' j≠none→Hn j≠none:=by
 have hK:∀ j∈keys,e2.blk j=e.blk j∧e2.hnd j=e.hnd j:=fun j hj=>by
  have:=(R2.env j (by rw[hBd];exact hj)).2;rw[hBe] at this;exact this
 have hon:Env.on H' e (F9 src e e2):=by
  intro j hj
  cases hs:src j with
  | none=>exact DW hs
  | some n =>
   rw[(ED hs).1,(ED hs).2]
   by_cases hm:j∈keys
   ·have:=h2 j hm;rw[hs] at this;cases this;exact hK j hm
   ·exact absurd (h3 j hm (by rw[hs];simp)) hj
 have hdom:∀ j,H' j≠none→Hn j≠none:=by
  intro j hj
  rw[hn]
  cases hs:src j with
  | none=>exact hj
  | some n =>
   obtain⟨_,c,t,hc,_⟩:=h1 j n hs
   simp[hc]
 have hbk:∀ n j,src j=some n→e2.blk n<w.heap.size→∃ i∈keys,e2.blk n=e.blk i:=by
  intro n j hs hlt
  obtain⟨_,c,t,hc,_⟩:=h1 j n hs
  rcases R2.ge n c t hc with hg|hg
  ·omega
  ·exact hBb _ hg
 have hold:∀ b,b<w.heap.size→(∀ i∈keys,b≠e.blk i)→w'.heap[b]? = w.heap[b]?:=fun b hb hne=>R2.old b hb (fun hm=>by
  obtain⟨i,hi,rfl⟩:=hBb b hm;exact hne i hi rfl)
 have hnone:∀ j o,Hn j=some o→src j=none→H' j=some o:=fun j o hj hs=>by rw[hn,hs] at hj;exact hj
 have hsome:∀ j n o,Hn j=some o→src j=some n→∃ c t,Hc n=some (.own c t)∧o = .own (AV.rens f c) t∧∀ r∈AV.refss c,src (f r)=some r:=fun j n o hj hs=>by
  obtain⟨_,c,t,hc,hr⟩:=h1 j n hs
  rw[hn,hs] at hj
  simp only[hc,Option.map_some,AO.ren,Option.some.injEq] at hj
  exact⟨c,t,hc,hj.symm,hr⟩
 refine⟨⟨R2.os.trans R.os,R2.tape.trans R.tape,R2.output.trans R.output,Nat.le_trans R.size R2.size,?_,R2.gl,?_,?_,?_,?_,?_,?_,?_,?_,fun j n l hj b hv=>by
  cases hs:src j with
  | some m=>obtain⟨c0,t0,hc,ho,hr⟩:=hsome j m _ hj hs;cases ho
  | none=>rw[(DW hs).2] at hv;exact R.new j n l (hnone j _ hj hs) b hv,fun j es hj=>by
  cases hs:src j with
  | some m=>obtain⟨c0,t0,hc,ho,hr⟩:=hsome j m _ hj hs;cases ho
  | none =>
   have h0:=hnone j _ hj hs
   obtain⟨m1,m2⟩:=R.mp j es h0
   rw[(DW hs).2]
   refine⟨m1.same (fun b hv hb=>hold b hb (fun i hi he=>?_)),fun j' c t hj' hv=>?_⟩
   ·obtain⟨c',t',hi'⟩:=hown i hi
    exact m2 i c' t' hi' (by rw[hv,he])
   ·cases hs':src j' with
    | none =>
     rw[(DW hs').1] at hv
     exact m2 j' c t (hnone j' _ hj' hs') hv
    | some m =>
     rw[(ED hs').1] at hv
     obtain⟨i,hi,he⟩:=hbk m j' hs' (m1.lt hv)
     obtain⟨c',t',hi'⟩:=hown i hi
     exact m2 i c' t' hi' (by rw[hv,he])⟩,hon,hdom⟩
 ·intro b hb hb0
  rw[← R.old b hb hb0]
  refine hold b (Nat.lt_of_lt_of_le hb R.size) (fun i hi he=>?_)
  obtain⟨c,t,hc⟩:=hown i hi
  rcases R.ge i c t hc with hg|hg
  ·omega
  ·rw[he] at hb0;exact hb0 hg
 ·intro j c t hj
  cases hs:src j with
  | some n =>
   obtain⟨c0,t0,hc,ho,hr⟩:=hsome j n _ hj hs
   cases ho
   rw[(ED hs).1,AV.rens_val c0 (fun r hrm=>ED (hr r hrm))]
   exact R2.own n c0 t hc
  | none =>
   have h0:=hnone j _ hj hs
   rw[(DW hs).1,AV.vals_on hon c (fun r hr=>R.refs j _ h0 r hr),hold (e.blk j) (R.lt h0) (fun i hi he=>?_)]
   ·exact R.own j c t h0
   ·obtain⟨c',t',hi'⟩:=hown i hi
    have:=R.inj j c t i c' t' h0 hi' he
    rw[this,h2 i hi] at hs;cases hs
 ·intro j c t hj
  cases hs:src j with
  | some n =>
   obtain⟨c0,t0,hc,ho,hr⟩:=hsome j n _ hj hs
   rw[(ED hs).1]
   rcases R2.ge n c0 t0 hc with hg|hg
   ·exact .inl (Nat.le_trans R.size hg)
   ·obtain⟨i,hi,he⟩:=hBb _ hg
    obtain⟨c',t',hi'⟩:=hown i hi
    rw[he];exact R.ge i c' t' hi'
  | none=>rw[(DW hs).1];exact R.ge j c t (hnone j _ hj hs)
 ·intro j c t hj x hx
  cases hs:src j with
  | some n =>
   obtain⟨c0,t0,hc,ho,hr⟩:=hsome j n _ hj hs
   rw[(ED hs).1];exact R2.glo n c0 t0 hc x hx
  | none=>rw[(DW hs).1];exact R.glo j c t (hnone j _ hj hs) x hx
 ·have mix:∀ j n j',src j=some n→src j'=none→(∃ c t,H' j'=some (.own c t))→e2.blk n≠e.blk j':=by
   intro j n j' hs hs' ⟨c,t,hj'⟩ he
   obtain⟨i,hi,h⟩:=hbk n j hs (by rw[he];exact R.lt hj')
   obtain⟨c',t',hi'⟩:=hown i hi
   have:=R.inj i c' t' j' c t hi' hj' (by rw[← h,he])
   rw[← this,h2 i hi] at hs';cases hs'
  intro j c t j' c' t' hj hj' he
  cases hs:src j with
  | some n =>
   obtain⟨c0,t0,hc,ho,hr⟩:=hsome j n _ hj hs
   rw[(ED hs).1] at he
   cases hs':src j' with
   | some n' =>
    obtain⟨c0',t0',hc',ho',hr'⟩:=hsome j' n' _ hj' hs'
    rw[(ED hs').1] at he
    have:=R2.inj n c0 t0 n' c0' t0' hc hc' he
    rw[← (h1 j n hs).1,← (h1 j' n' hs').1,this]
   | none =>
    rw[(DW hs').1] at he
    exact absurd he (mix j n j' hs hs' ⟨c',t',hnone j' _ hj' hs'⟩)
  | none =>
   rw[(DW hs).1] at he
   cases hs':src j' with
   | some n' =>
    rw[(ED hs').1] at he
    exact absurd he.symm (mix j' n' j hs' hs ⟨c,t,hnone j _ hj hs⟩)
   | none =>
    rw[(DW hs').1] at he
    exact R.inj j c t j' c' t' (hnone j _ hj hs) (hnone j' _ hj' hs') he
 ·intro j n l hj
  cases hs:src j with
  | some m=>obtain⟨c0,t0,hc,ho,hr⟩:=hsome j m _ hj hs;cases ho
  | none =>
   have h0:=hnone j _ hj hs
   rw[(DW hs).2]
   refine(R.rd j n l h0).same R2.size (fun b hv hb=>hold b hb (fun i hi he=>?_))
   obtain⟨c',t',hi'⟩:=hown i hi
   exact R.apart j n l i c' t' h0 hi' (by rw[hv,he])
 ·intro j n l j' c t hj hj' hv
  cases hs:src j with
  | some m=>obtain⟨c0,t0,hc,ho,hr⟩:=hsome j m _ hj hs;cases ho
  | none =>
   have h0:=hnone j _ hj hs
   rw[(DW hs).2] at hv
   cases hs':src j' with
   | none =>
    rw[(DW hs').1] at hv
    exact R.apart j n l j' c t h0 (hnone j' _ hj' hs') hv
   | some m =>
    rw[(ED hs').1] at hv
    obtain⟨i,hi,he⟩:=hbk m j' hs' ((R.rd j n l h0).lt hv)
    obtain⟨c',t',hi'⟩:=hown i hi
    exact R.apart j n l i c' t' h0 hi' (by rw[hv,he])
 ·intro j o hj r hr
  cases hs:src j with
  | some n =>
   obtain⟨c0,t0,hc,ho,hrf⟩:=hsome j n _ hj hs
   subst ho
   obtain⟨q,hq,rfl⟩:=AV.rens_refs c0 hr
   have hsq:=hrf q hq
   obtain⟨_,c,t,hc',_⟩:=h1 _ _ hsq
   rw[hn,hsq];simp[hc']
  | none=>exact hdom r (R.refs j o (hnone j _ hj hs) r hr)
 ·intro j hj
  obtain⟨h0,hb⟩:=R.env j hj
  exact⟨hdom j h0,by rw[(hon j h0).1];exact hb.1,by rw[(hon j h0).2];exact hb.2⟩
theorem akQ {P : Program} {G : wD} (E : xK) {w0 : World} {B0 : wX} {g : FuncId} {fn : Func} {c : Code} {args : List AV} {H H1 Hc : vE} {k : Nat} {r : AV} {ef : List (Nat × AO)} (keys : List Nat) (N1 : Nat) (src : Nat → Option Nat) (f : Nat → Nat)
    (hf : P.funcs[g]? = some fn) (hb : fn.body = some c) (hn : (fn.name == "runtime.NumGoroutine") = false) (hl : (Nat.ble args.length fn.ntmps) = true)
    (hH1 : ∀ j o, H1 j = some o → j ∈ keys) (hH1' : ∀ j ∈ keys, H1 j = H j ∧ (∃ c t, H j = some (.own c t)) ∧ j < N1) (hcl : ∀ j c t, H1 j = some (.own c t) → ∀ r ∈ AV.refss c, r ∈ keys) (href : ∀ x ∈ args, ∀ j ∈ x.refs, j ∈ keys)
    (h1 : ∀ j n, src j = some n → f n = j ∧ ∃ c t, Hc n = some (.own c t) ∧ ∀ r ∈ AV.refss c, src (f r) = some r)
    (h2 : ∀ j ∈ keys, src j = some j) (h3 : ∀ j n, src j = some n → j ∈ keys ∨ j = k ∨ j = k + 1) (hr : ∀ j ∈ r.refs, src (f j) = some j)
    (hef : ∀ H' : vE, (∀ b ∈ keys, H' b = H b) → ∀ j, (H'.puts ef) j = match src j with | some n => (Hc n).map (AO.ren f) | none => H' j)
    (h : ∀ w1 B, AW ⟨P, G, E, w1, B, fn.ntmps⟩ c (Wq P G fn (fun r' Hx => r' = r ∧ Hx = Hc)) N1 (Hr args fn.ntmps) H1) :
    Kq P G w0 B0 g args H keys k (r.ren f) ef := by
  intro H' e w hag hk0 hk1 hrefs R
  have hkeys : ∀ j ∈ keys, ∃ c t, H' j = some (.own c t) := fun j hj => by rw [hag j hj]; exact (hH1' j hj).2.1
  have hsub : ∀ j o, H1 j = some o → H' j = some o := fun j o hj => by have hm := hH1 j o hj; rw [hag j hm, ← (hH1' j hm).1]; exact hj
  let B : wX := ⟨keys.map e.blk, keys, e⟩
  have R1 : wH G w B e H1 w := by
    refine ⟨rfl, rfl, rfl, Nat.le_refl _, fun _ _ _ => rfl, R.gl, fun j c t hj => R.own j c t (hsub _ _ hj), fun j c t hj => .inr (List.mem_map.2 ⟨j, hH1 j _ hj, rfl⟩), fun j c t hj => R.glo j c t (hsub _ _ hj),
      fun j c t j' c' t' hj hj' => R.inj j c t j' c' t' (hsub _ _ hj) (hsub _ _ hj'), fun j n l hj => R.rd j n l (hsub _ _ hj), fun j n l j' c t hj hj' => R.apart j n l j' c t (hsub _ _ hj) (hsub _ _ hj'), ?_, ?_, fun j n l hj b hv => .inr ⟨j, hH1 j _ hj, hv⟩, fun j es hj => ⟨(R.mp j es (hsub _ _ hj)).1, fun j' c t hj' => (R.mp j es (hsub _ _ hj)).2 j' c t (hsub _ _ hj')⟩⟩
    · intro j o hj i hi
      obtain ⟨hj1, ⟨c, t, hc⟩, _⟩ := hH1' j (hH1 j o hj)
      rw [← hj1, hj] at hc
      cases hc
      have hm := hcl j c t hj i hi
      obtain ⟨h5, ⟨c', t', hc'⟩, _⟩ := hH1' i hm
      rw [h5, hc']; simp
    · intro j hj
      obtain ⟨h5, ⟨c', t', hc'⟩, _⟩ := hH1' j hj
      exact ⟨by rw [h5, hc']; simp, rfl, rfl⟩
  have hB1 : Dh H1 N1 := by
    intro b hb
    cases hv : H1 b with
    | none => rfl
    | some o => have := (hH1' b (hH1 b o hv)).2.2; omega
  have hcall := Ws (E := E) hf hb (by simpa using hl) R1 hB1 (fun x hx j hj => by
    obtain ⟨h5, ⟨c', t', hc'⟩, _⟩ := hH1' j (href x hx j hj); rw [h5, hc']; simp) (h w B)
  refine Hu hf hn (by rw [hb]; rfl) (hcall.mono ?_)
  rintro en w' ⟨r', e2, Hx, rfl, ⟨rfl, rfl⟩, R2⟩
  have hput := hef H' hag
  obtain ⟨R3, hon, hdom⟩ := akP R (keys := keys) (B := B) rfl (fun b hb => by obtain ⟨j, hj, rfl⟩ := List.mem_map.1 hb; exact ⟨j, hj, rfl⟩) rfl R2 hkeys h1 h2 (fun j hj hs => by
    cases hsj : src j with
    | none => exact absurd hsj hs
    | some n => rcases h3 j n hsj with h6 | h6 | h6
                · exact absurd h6 hj
                · rw [h6]; exact hk0
                · rw [h6]; exact hk1) hput
  refine ⟨F9 src e e2, ?_, R3, hon, fun j hj => ?_⟩
  · rw [AV.ren_val r' (fun j hj => ED (hr j hj))]
  · obtain ⟨q, hq, rfl⟩ := AV.ren_refs r' hj
    have hs := hr q hq
    obtain ⟨_, c, t, hc, _⟩ := h1 _ _ hs
    rw [hput, hs]; simp [hc]
open Go.RowKit
inductive Sh where
 | sc (k:VK)
 | agg (l:List VK)
structure Ct where
 a:List Sh
 r:List Sh
structure Ae where
 id:Nat
 a:List Sh
 n:Nat
 t:TypeId
 ks:List VK
 r:List Sh
structure xA where
 P:Program
 G:wD
 SE:MW
 ct:FuncId→Option Ct
 Φ:yY
 nt:FuncId→Option Ct
 sl:FuncId→List Ae
def Fj (k:VK) (x:SV):Option X:=match k,x with
 | .int k,.int k' a=>match zT k k',X.inK k a with|true,true=>some a|_,_=>none
 | .bool,.bool a=>some a
 | .bit,.int k' a=>match zT .u64 k',X.isBit a with|true,true=>some a|_,_=>none
 | _,_=>none
def KF:List VK→List SV→Option (List X)
 | [],[]=>some []
 | k::ks,x::xs=>match Fj k x,KF ks xs with|some a,some l=>some (a::l)|_,_=>none
 | _,_=>none
def Xt (h:Sh) (x:SV):Option (List X):=match h,x with
 | .sc k,x=>match Fj k x with|some a=>some [a]|none=>none
 | .agg l,.agg xs=>KF l xs
 | .agg l,.v (.agg cs)=>KF l (cs.toList.map Bp)
 | _,_=>none
def DX:List Sh→List SV→Option (List X)
 | [],[]=>some []
 | h::hs,x::xs=>match Xt h x,DX hs xs with|some a,some l=>some (a++l)|_,_=>none
 | _,_=>none
def Fp (k:VK) (x:X):SV:=match k with | .int k=>.int k x | .bool=>.bool x | .bit=>.int .u64 x | .nat=>.int .u64 x
def EE:List VK→List X→List SV
 | k::ks,x::xs=>Fp k x::EE ks xs
 | _,_=>[]
def Sh.kinds:Sh→List VK
 | .sc k=>[k]
 | .agg l=>l
def Xu (h:Sh) (xs:List X):SV:=match h with
 | .sc k=>match xs with|x::_=>Fp k x | []=>.v undef
 | .agg l=>.agg (EE l xs)
def ww:List Sh→List X→List SV
 | [],_=>[]
 | h::hs,xs=>Xu h xs::ww hs (xs.drop h.kinds.length)
def resS:List SV→SV
 | [x]=>x
 | l=>.tup l
def vD (l:List Sh):List VK:=l.flatMap Sh.kinds
def wm:Nat→List VK→List X
 | _,[]=>[]
 | b,k::ks=>.var k b::wm (Nat.succ b) ks
def MZ (k:VK) (n:Int):Int:=match k with | .int k=>yX k n | .bool=>vw (vG n) | .bit=>vw (vG n) | .nat=>Int.ofNat n.toNat
def Qr {β:Sort _} : List VK→List Int→(List X→β)→β
 | k::ks,n::ns,K=>Ev (MZ k n) fun n=>Qr ks ns fun l=>K (.lit n::l)
 | _,_,K=>K []
def Qs:List X→Option (List Int)
 | []=>some []
 | .lit n::l=>match Qs l with|some r=>some (n::r)|none=>none
 | _::_=>none
mutual
def SV.refs:SV→List Nat
 | .v _=>[]
 | .int _ _=>[]
 | .bool _=>[]
 | .loc b _=>[b]
 | .hd k=>[k]
 | .ha k _=>[k]
 | .sl b _ _ _=>[b]
 | .fn _ a c=>SV.refss a++SV.refss c
 | .tup l=>SV.refss l
 | .agg l=>SV.refss l
def SV.refss:List SV→List Nat
 | []=>[]
 | x::l=>SV.refs x++SV.refss l
end
def M3 (H:SH):Nat→List Nat→SH→Option SH
 | 0,_,_=>none
 | _+1,[],acc=>some acc
 | f+1,b::todo,acc=>match hget acc b with
  | some _=>M3 H f todo acc
  | none=>match hget H b with
   | none=>none
   | some o=>M3 H f (SV.refss o.c++todo) ((b,o)::acc)
def reach (H:SH) (l:List Nat):Option SH:=match l with | []=>some []|l=>M3 H 2000 l []
def xZ (n:Nat):List Nat→Bool
 | []=>false
 | x::l=>match Nat.beq x n with|true=>true|false=>xZ n l
def addN (n:Nat) (l:List Nat):List Nat:=match xZ n l with|true=>l|false=>n::l
mutual
def SV.ren (f:Nat→Nat):SV→SV
 | .v x=>.v x
 | .int k x=>.int k x
 | .bool x=>.bool x
 | .loc b o=>.loc (f b) o
 | .hd k=>.hd (f k)
 | .ha k off=>.ha (f k) off
 | .sl b o l c=>.sl (f b) o l c
 | .fn g a c=>.fn g (SV.rens f a) (SV.rens f c)
 | .tup l=>.tup (SV.rens f l)
 | .agg l=>.agg (SV.rens f l)
def SV.rens (f:Nat→Nat):List SV→List SV
 | []=>[]
 | x::l=>SV.ren f x::SV.rens f l
end
def zf (m:List (Nat×Nat)) (n:Nat):Nat:=match m with
 | []=>n
 | x::l=>match Nat.beq x.1 n with|true=>x.2|false=>zf l n
structure St where
 N:Nat
 T:wE
 H:SH
 nv:Nat
 dt:List Nat
 fc:Facts
abbrev Qt:=List (Nat×List Nat×Bool)
def H9 {β:Sort _} (T:wE) (d:Option Tmp) (x:SV) (K:wE→β):β:=match d with|none=>K T|some d=>Tc T d x K
def Xv {β:Type} (ops:Array Oper) (T:wE) (o:Oper) (fc:Facts) (K:Bool→Facts→vo β):vo β:=match o.guard with
 | none=>K true fc
 | some (j,want)=>match (ops[j]?).bind (·.dst) with
  | none=>K false fc
  | some d=>match zD T d with
   | some (.bool x)=>Fg fc x fun b fc=>K (match b with|true=>want|false=>Dj want) fc
   | some (.v (.tuple _))=>K false fc
   | _=>.stuck "guard"
def Xw:SV→Option (FuncId×List SV×List SV)
 | .v (.func (.func g) a c)=>some (g,a.toList.map H5,c.toList.map H5)
 | .fn (.func g) a c=>some (g,a,c)
 | _=>none
def Xx (op:Op) (ρ:Operand→Option SV):Option (Option (FuncId×List SV)):=match op with
 | .call { callee:=.value f,args:=xs,argTypes:=_ }=>match ρ f with
  | some fv=>match Xw fv,KD ρ xs.toList with
   | some (g,a,c),some bs=>some (some (g,a++bs++c))
   | _,_=>some none
  | none=>some none
 | _=>none
structure CR where
 r:SV
 tc:List Nat
 ef:List (Nat×SO)
 nv:Nat
 fc:Facts
abbrev CF:=FuncId→List SV→SH→Nat→Nat→Facts→vo CR
def Xy (op:Op) (ρ:Operand→Option SV):Option (X×Option SV×Option SV):=match op with
 | .pick c a b=>match ρ c with
  | some (.bool q)=>some (q,ρ a,ρ b)
  | _=>none
 | _=>none
structure acH where
 k:Nat
 kd:IntKind
 n:X
 es:List (Value×Value)
 z:Value
 q:Bool
def Qu (kd:IntKind):List (Value×Value)→Bool
 | []=>true
 | x::l=>match x.1 with
  | .int k' _=>match zT kd k' with|true=>Qu kd l|false=>false
  | _=>false
def Xz (P:Program) (op:Op) (ρ:Operand→Option SV) (H:SH):Option acH:=match op with
 | .lookup t x i q=>match ρ x,ρ i with
  | some (.hd k),some (.int kd n)=>match hget H k with
   | some o=>match o.t,CO o.c with
    | none,some es=>match P.underlying t with
     | some (.map kt et)=>match Me P kt,VJ P et with
      | some kd',some z=>match zT kd' kd,Qu kd es with
       | true,true=>some ⟨k,kd,n,es,z,q⟩
       | _,_=>none
      | _,_=>none
     | _=>none
    | _,_=>none
   | none=>none
  | _,_=>none
 | _=>none
def Qv (q:Bool) (v:Value) (b:Bool):SV:=match q with
 | true=>.tup [H5 v,.bool (.lit (vw b))]
 | false=>H5 v
def Tj {β:Type} (kd:IntKind) (n:X) (q:Bool) (z:Value) (K:SV→Facts→vo β):List (Value×Value)→Facts→vo β
 | [],fc=>K (Qv q z false) fc
 | x::l,fc=>match x.1 with
  | .int _ m=>Fg fc (yP .eql kd n (.lit m)) fun b fc=>match b with
   | true=>K (Qv q x.2 true) fc
   | false=>Tj kd n q z K l fc
  | _=>.stuck "key"
structure acI where
 k:Nat
 c:X
 r:SV
def Tk (H:SH) (k:Nat):Option Qn:=match hget H k with
 | some o=>match o.t,CO o.c,Dn o.c with
  | none,none,some r=>some r
  | _,_,_=>none
 | none=>none
def Qw (k:VK) (x:X):SV:=match k with | .int k=>.int k x | .bool=>.bool x | .bit=>.int .u64 x | .nat=>.int .u64 x
def Tm:List VK→List X→List SV
 | k::ks,x::xs=>Qw k x::Tm ks xs
 | _,_=>[]
def Tn:Nat→List VK→List X
 | _,[]=>[]
 | b,k::ks=>.var k b::Tn (Nat.succ b) ks
def XA (P:Program) (op:Op) (ρ:Operand→Option SV) (H:SH):Option acI:=match op with
 | .indexAddr t x i=>match ρ x,ρ i with
  | some (.hd k),some (.int _ (.lit (.ofNat j)))=>match Tk H k,FZ P t with
   | some r,some el=>match xU P el with
    | some sz=>match Nat.beq sz r.ks.length with
     | true=>yO (j*sz) fun off=>some ⟨k,yP .lss .i64 (.lit (.ofNat j)) r.n,.ha k off⟩
     | false=>none
    | none=>none
   | _,_=>none
  | _,_=>none
 | .load t x=>match ρ x with
  | some (.ha k off)=>match Tk H k with
   | some r=>yO (off/r.ks.length) fun j=>match Nat.beq (j*r.ks.length) off,I8 P t with
    | true,some true=>match xU P t with
     | some sz=>match Nat.beq sz r.ks.length,Nat.ble 1 sz with
      | true,true=>yO (r.b+off) fun b=>some ⟨k,yP .lss .i64 (.lit (.ofNat j)) r.n,.agg (Tm r.ks (Tn b r.ks))⟩
      | _,_=>none
     | none=>none
    | true,some false=>match r.ks with
     | [vk]=>yO (r.b+off) fun b=>some ⟨k,yP .lss .i64 (.lit (.ofNat j)) r.n,Qw vk (.var vk b)⟩
     | _=>none
    | _,_=>none
   | none=>none
  | _=>none
 | _=>none
def Ga:List (Nat×SO)→List Nat→List Nat
 | [],l=>l
 | x::ef,l=>Ga ef (addN x.1 l)
def Tp (tc:List Nat):List (Nat×SO)→Bool
 | []=>false
 | x::ef=>match xZ x.1 tc with|true=>true|false=>Tp tc ef
def Ia (i:Nat) (tc:List Nat) (ef:List (Nat×SO)) (tr:Qt):Qt:=match tc with | []=>tr|tc=>(i,tc,Tp tc ef)::tr
structure OR where
 T:wE
 H:SH
 tr:Qt
 nv:Nat
 dt:List Nat
 fc:Facts
def DY (C:xA) (cf:CF) (ops:Array Oper) (Nb:Nat):Nat→List Oper→wE→SH→Qt→Nat→List Nat→Facts→vo OR
 | _,[],T,H,tr,nv,dt,fc=>.leaf ⟨T,H,tr,nv,dt,fc⟩
 | i,o::os,T,H,tr,nv,dt,fc=>Xv ops T o fc fun want fc=>match want with
  | false=>H9 T o.dst (.v undef) fun T=>DY C cf ops Nb (Nat.succ i) os T H tr nv dt fc
  | true=>match Xx o.op (EB T) with
   | some none=>.stuck "call: operands"
   | some (some (g,args))=>yO (Nb+2*i) fun k=>(cf g args H k nv fc).bind fun r =>
     H9 T o.dst r.r fun T=>F8 H r.ef fun H=>DY C cf ops Nb (Nat.succ i) os T H (Ia i r.tc r.ef tr) r.nv (Ga r.ef dt) r.fc
   | none=>match Xy o.op (EB T) with
    | some (q,x,y)=>Fg fc q fun b fc=>match (match b with|true=>x|false=>y) with
     | some r=>H9 T o.dst r fun T=>DY C cf ops Nb (Nat.succ i) os T H tr nv dt fc
     | none=>.stuck "pick"
    | none=>match Xz C.P o.op (EB T) H with
     | some L=>Tj L.kd L.n L.q L.z (fun r fc=>H9 T o.dst r fun T=>DY C cf ops Nb (Nat.succ i) os T H (Ia i [L.k] [] tr) nv dt fc) L.es fc
     | none=>match XA C.P o.op (EB T) H with
      | some L=>Fg fc L.c fun b fc=>match b with
       | true=>H9 T o.dst L.r fun T=>DY C cf ops Nb (Nat.succ i) os T H (Ia i [L.k] [] tr) nv dt fc
       | false=>.stuck "index: beyond"
      | none=>yO (Nb+2*i) fun k=>(Xr C.P C.G C.SE fc o.op (EB T) H k).bind fun r =>
       H9 T o.dst r.1 fun T=>F8 H r.2.2 fun H=>DY C cf ops Nb (Nat.succ i) os T H (Ia i r.2.1 r.2.2 tr) nv (Ga r.2.2 dt) fc
def Af (P:Program) (T:wE) (H:SH):List ResultVar→Option (List SV)
 | []=>some []
 | .tmp t::l=>match zD T t,Af P T H l with
  | some x,some r=>some (x::r)
  | _,_=>none
 | .cell a t::l=>match zD T a with
  | some (.loc b o)=>match hget H b with
   | some ob=>match ob.t with
    | some _=>match H8 P t ob.c o,Af P T H l with
     | some x,some r=>some (x::r)
     | _,_=>none
    | none=>none
   | none=>none
  | _=>none
def zF:List SV→Nat→wE
 | [],0=>[]
 | [],n+1=>some (.v undef)::zF [] n
 | _::_,0=>[]
 | x::l,n+1=>some x::zF l n
def KG:SH→Bool
 | []=>true
 | x::l=>match x.2.t with|some _=>KG l|none=>false
def Qx (k:Nat) (objs:SH):SH→Option (List Nat)
 | []=>some []
 | x::l=>match Qx k objs l with
  | none=>none
  | some r=>match Nat.ble k x.1 with
   | true=>some (x.1::r)
   | false=>match hget objs x.1 with|some _=>some r|none=>none
def Tq (k:Nat):List Nat→Option (List (Nat×Nat))
 | []=>some []
 | [n1]=>some [(n1,k)]
 | [n1,n2]=>match Nat.beq n1 n2 with|true=>none|false=>some [(n1,k),(n2,k+1)]
 | _=>none
def CP (dt:List Nat):SH→List Nat
 | []=>[]
 | x::l=>match xZ x.1 dt with|true=>x.1::CP dt l|false=>CP dt l
def Qy (k:Nat):SH→Bool
 | []=>true
 | x::l=>match Nat.blt x.1 k with|true=>Qy k l|false=>false
def keysOf:SH→List Nat
 | []=>[]
 | x::l=>x.1::keysOf l
def Gb (f:Nat→Nat) (H:SH):List Nat→List (Nat×SO)
 | []=>[]
 | b::l=>match hget H b with|some o=>(b,⟨SV.rens f o.c,o.t⟩)::Gb f H l|none=>Gb f H l
def Fq (f:Nat→Nat) (H:SH):List Nat→List (Nat×SO)
 | []=>[]
 | b::l=>match hget H b with|some o=>(f b,⟨SV.rens f o.c,o.t⟩)::Fq f H l|none=>Fq f H l
def Tt (P:Program) (fn:Func) (objs:SH) (k:Nat) (s:St):vo CR :=
 match Af P s.T s.H fn.results.toList with
 | none=>.stuck "results"
 | some rs=>match reach s.H (SV.refss rs++CP s.dt objs) with
   | none=>.stuck "reach behind a call"
   | some R2=>match Qx k objs R2,KG R2 with
    | none,_=>.stuck "a block of nobody"
    | _,false=>.stuck "a number behind a call"
    | some nw,true=>match nw with
     | []=>.leaf ⟨resS rs,keysOf objs,Gb (fun n=>n) s.H (CP s.dt objs),s.nv,s.fc⟩
     | nw=>match Tq k nw with
      | none=>.stuck "more than two new blocks"
      | some m=>.leaf ⟨(resS rs).ren (zf m),keysOf objs,Gb (zf m) s.H (CP s.dt objs)++Fq (zf m) s.H nw,s.nv,s.fc⟩
mutual
def xX (c:X):SV→SV→Option SV
 | .int k a,.int k' b=>match zT k k' with|true=>some (.int k (Kw c a b))|false=>none
 | .bool a,.bool b=>some (.bool (Kw c a b))
 | .agg l,.agg m=>match Jr c l m with|some r=>some (.agg r)|none=>none
 | .tup l,.tup m=>match Jr c l m with|some r=>some (.tup r)|none=>none
 | _,_=>none
def Jr (c:X):List SV→List SV→Option (List SV)
 | [],[]=>some []
 | x::l,y::m=>match xX c x y,Jr c l m with|some r,some rs=>some (r::rs)|_,_=>none
 | _,_=>none
end
def M4:List Nat→List Nat→Bool
 | [],[]=>true
 | x::l,y::m=>match Nat.beq x y with|true=>M4 l m|false=>false
 | _,_=>false
def Js (tc:List Nat) (nv:Nat):vo CR→Option (X×Option SV)
 | .leaf r=>match r.ef with
  | []=>match M4 r.tc tc,Nat.beq r.nv nv with|true,true=>some (.lit (.ofNat 1),some r.r)|_,_=>none
  | _::_=>none
 | .ite c a b=>match Js tc nv a,Js tc nv b with
  | some (x,none),some (y,r)=>some (Kw c x y,r)
  | some (x,r),some (y,none)=>some (Kw c x y,r)
  | some (x,some r),some (y,some q)=>match xX c r q with|some z=>some (Kw c x y,some z)|none=>none
  | _,_=>none
 | .stuck _=>some (.lit (.ofNat 0),none)
 | .call _ _ _ _ _=>none
def XB (tc:List Nat) (nv:Nat) (fc:Facts) (t:vo CR):vo CR:=match t with
 | .ite c a b=>match Js tc nv (.ite c a b) with
  | some (x,some r)=>ML x (.leaf ⟨r,tc,[],nv,fc⟩) (.stuck "in a call")
  | _=>.ite c a b
 | t=>t
def regionEnd (nt:Nat) (ops:Array Oper) (draw:Bool) (s:St) (r:OR):vo (Exit×St) :=
 match draw with
 | true=>match drawOK ops nt,traceOK ops s.N r.tr with
  | true,true=>yO (s.N+2*ops.size) fun N=>.leaf (.normal,⟨N,r.T,r.H,r.nv,r.dt,r.fc⟩)
  | false,_=>.stuck "drawOK"
  | _,_=>.stuck "traceOK"
 | false=>match dstsLt nt ops.toList with
  | true=>yO (s.N+2*ops.size) fun N=>.leaf (.normal,⟨N,r.T,r.H,r.nv,r.dt,r.fc⟩)
  | false=>.stuck "dstsLt"
def Qz (P:Program) (ex:Code→St→vo (Exit×St)) (g:FuncId) (args:List SV) (H:SH) (k nv:Nat) (fc:Facts):vo CR:=match P.funcs[g]? with
 | none=>.stuck "no such function"
 | some fn=>match fn.body with
  | none=>.stuck "no body"
  | some cd=>match reach H (SV.refss args) with
   | none=>.stuck "reach"
   | some objs=>match Nat.ble args.length fn.ntmps,Qy k objs,KG objs with
    | true,true,true=>XB (keysOf objs) nv fc ((ex cd ⟨k,zF args fn.ntmps,objs,nv,[],fc⟩).bind fun r=>match r.1 with
     | .normal=>Tt P fn objs k r.2
     | .ret=>Tt P fn objs k r.2
     | _=>.stuck "a call's end")
    | _,_,_=>.stuck "a call's arguments"
def M5 (H:SH) (k:VK) (x:SV):Option X:=match k with
 | .nat=>match x with
  | .hd h=>match hget H h with
   | some o=>match o.t with
    | none=>match o.c with
     | [.int _ x]=>some x
     | _=>none
    | some _=>none
   | none=>none
  | .v (.slice none 0 0)=>some (.lit (.ofNat 0))
  | _=>none
 | .int k=>Fj (.int k) x
 | .bool=>Fj .bool x
 | .bit=>Fj .bit x
def KH (H:SH):List VK→List SV→Option (List X)
 | [],[]=>some []
 | k::ks,x::xs=>match M5 H k x,KH H ks xs with|some a,some l=>some (a::l)|_,_=>none
 | _,_=>none
def QA (H:SH) (h:Sh) (x:SV):Option (List X):=match h,x with
 | .sc k,x=>match M5 H k x with|some a=>some [a]|none=>none
 | .agg l,.agg xs=>KH H l xs
 | .agg l,.v (.agg cs)=>KH H l (cs.toList.map Bp)
 | _,_=>none
def M6 (H:SH):List Sh→List SV→Option (List X)
 | [],[]=>some []
 | h::hs,x::xs=>match QA H h x,M6 H hs xs with|some a,some l=>some (a++l)|_,_=>none
 | _,_=>none
def nN (k:VK):Nat:=match k with | .nat=>1|_=>0
def Dp:List VK→Nat
 | []=>0
 | k::ks=>nN k+Dp ks
def QB (k:VK) (x:X) (h:Nat):SV:=match k with | .nat=>.hd h|k=>Fp k x
def zG:List VK→List X→Nat→List SV
 | k::ks,x::xs,h=>QB k x h::zG ks xs (h+nN k)
 | _,_,_=>[]
def XC (sh:Sh) (xs:List X) (h:Nat):SV:=match sh with
 | .sc k=>match xs with|x::_=>QB k x h | []=>.v undef
 | .agg l=>.agg (zG l xs h)
def KI:List Sh→List X→Nat→List SV
 | [],_,_=>[]
 | s::ss,xs,h=>XC s xs h::KI ss (xs.drop s.kinds.length) (h+Dp s.kinds)
def Ch:List VK→List X→Nat→List (Nat×SO)
 | k::ks,x::xs,h=>match k with
  | .nat=>yO h fun h'=>(h',⟨[.int .u64 x],none⟩)::Ch ks xs (h+1)
  | _=>Ch ks xs h
 | _,_,_=>[]
def XD (C:xA) (ct:Ct) (g:FuncId) (args:List SV) (H:SH) (k nv:Nat) (fc:Facts):vo CR:=match M6 H ct.a args with
 | none=>.stuck "numbers: arguments"
 | some xs=>.call g xs nv (vD ct.r).length (yO (nv+(vD ct.r).length) fun nv'=>.leaf ⟨resS (KI ct.r (wm nv (vD ct.r)) k),SV.refss args,Ch (vD ct.r) (wm nv (vD ct.r)) k,nv',fc⟩)
structure acJ where
 i:List SV
 b:Nat
 o:Nat
 n:Nat
 m:Nat
def QC:List SV→Option acJ
 | []=>none
 | x::l=>match l with
  | []=>match x with
   | .sl b o n m=>some ⟨[],b,o,n,m⟩
   | _=>none
  | y::l'=>match QC (y::l') with
   | some r=>some ⟨x::r.i,r.b,r.o,r.n,r.m⟩
   | none=>none
def Tu:List Ae→Nat→Nat→TypeId→Option Ae
 | [],_,_,_=>none
 | s::L,n,m,t=>match Nat.beq s.n n,Nat.beq s.n m,Nat.beq s.t t with
  | true,true,true=>some s
  | _,_,_=>Tu L n m t
def XE (C:xA) (L:List Ae) (args:List SV) (H:SH) (nv:Nat) (fc:Facts) (K:Unit→vo CR):vo CR:=match QC args with
 | none=>K ()
 | some r=>match hget H r.b with
  | none=>K ()
  | some o=>match o.t with
   | none=>K ()
   | some t=>match Tu L r.n r.m t with
    | none=>K ()
    | some s=>match Nat.beq r.o 0,DX s.a r.i,KF s.ks o.c with
     | true,some xs,some ys=>match Qs (xs++ys) with
      | some ns=>match Nat.beq (C.Φ s.id ns).length (vD s.r).length with
       | true=>Qr (vD s.r) (C.Φ s.id ns) fun l=>.leaf ⟨resS (ww s.r l),[r.b],[],nv,fc⟩
       | false=>.stuck "contract"
      | none=>.call s.id (xs++ys) nv (vD s.r).length (yO (nv+(vD s.r).length) fun nv'=>.leaf ⟨resS (ww s.r (wm nv (vD s.r))),[r.b],[],nv',fc⟩)
     | _,_,_=>K ()
def QD (C:xA) (ex:Code→St→vo (Exit×St)) (g:FuncId) (args:List SV) (H:SH) (k nv:Nat) (fc:Facts):vo CR:=match C.nt g with
 | some ct=>XD C ct g args H k nv fc
 | none=>match C.ct g with
 | none=>match C.sl g with
  | []=>Qz C.P ex g args H k nv fc
  | L=>XE C L args H nv fc fun _=>Qz C.P ex g args H k nv fc
 | some ct=>match DX ct.a args with
  | none=>Qz C.P ex g args H k nv fc
  | some xs=>match Qs xs with
   | some ns=>match Nat.beq (C.Φ g ns).length (vD ct.r).length with
    | true=>Qr (vD ct.r) (C.Φ g ns) fun l=>.leaf ⟨resS (ww ct.r l),[],[],nv,fc⟩
    | false=>.stuck "contract"
   | none=>.call g xs nv (vD ct.r).length (yO (nv+(vD ct.r).length) fun nv'=>.leaf ⟨resS (ww ct.r (wm nv (vD ct.r))),[],[],nv',fc⟩)
def exec (C:xA):Nat→Code→St→vo (Exit×St)
 | 0,_,_=>.stuck "no fuel"
 | f+1,c,s=>match c with
  | .skip=>.leaf (.normal,s)
  | .label _=>.leaf (.normal,s)
  | .exit id=>.leaf (.exit id,s)
  | .ret=>.leaf (.ret,s)
  | .seq a b=>(exec C f a s).bind fun r=>match r.1 with | .normal=>exec C f b r.2|_=>.leaf r
  | .cond c a b=>match EB s.T c with
   | some (.bool q)=>Fg s.fc q fun bb fc=>match bb with|true=>exec C f a { s with fc:=fc } | false=>exec C f b { s with fc:=fc }
   | _=>.stuck "cond"
  | .block id c=>(exec C f c s).bind fun r=>match r.1 with
   | .exit id'=>match Nat.beq id' id with|true=>.leaf (.normal,r.2)|false=>.leaf r
   | _=>.leaf r
  | .loop c=>(exec C f c s).bind fun r=>match r.1 with | .normal=>exec C f (.loop c) r.2|_=>.leaf r
  | .scope c=>(exec C f c s).bind fun r=>match r.1 with | .goto _=>.stuck "goto" | _=>.leaf r
  | .region _ ops draw=>(DY C (QD C (exec C f)) ops s.N 0 ops.toList s.T s.H [] s.nv s.dt s.fc).bind fun r=>regionEnd s.T.length ops draw s r
  | _=>.stuck "no such text"
def wM (C:xA) (fuel:Nat) (g:FuncId) (args:List SV) (nv:Nat):vo SV :=
 match C.P.funcs[g]? with
 | none=>.stuck "no such function"
 | some fn=>match fn.body with
  | none=>.stuck "no body"
  | some cd=>match Nat.ble args.length fn.ntmps with
   | true=>(exec C fuel cd ⟨0,zF args fn.ntmps,[],nv,[],[]⟩).bind fun r=>match r.1 with
    | .normal=>match Af C.P r.2.T r.2.H fn.results.toList with|some rs=>.leaf (resS rs)|none=>.stuck "results"
    | .ret=>match Af C.P r.2.T r.2.H fn.results.toList with|some rs=>.leaf (resS rs)|none=>.stuck "results"
    | _=>.stuck "end"
   | false=>.stuck "arguments"
open Go.RowKit
def yx (h:Sh) (ns:List Int):Value:=match h with
 | .sc k=>match ns with|n::_=>xW k n | []=>undef
 | .agg l=>.agg (wQ l ns).toArray
def wJ:List Sh→List Int→List Value
 | [],_=>[]
 | h::hs,ns=>yx h ns::wJ hs (ns.drop h.kinds.length)
def xG:List Value→Value
 | [x]=>x
 | l=>.tuple l.toArray
def zK:List VK→List Int→List Int
 | k::ks,n::ns=>k.norm n::zK ks ns
 | _,_=>[]
theorem Tv {k:VK} {x:SV} {a:X} (s:vS) (h:Fj k x=some a):x.den s = .v (xW k (a.den s)):=by
 unfold Fj at h
 split at h
 ·split at h
  ·rename_i hk hi
   cases h
   have hk:=Be hk;subst hk
   simp only[SV.den,xW,X.inK_ok s hi]
  ·cases h
 ·cases h;rfl
 ·split at h
  ·rename_i hk hi
   cases h
   have hk:=Be hk;subst hk
   simp only[SV.den,xW];rw[← X.isBit_ok s hi]
  ·cases h
 ·cases h
theorem QE (s:vS):∀ {ks:List VK} {xs:List SV} {l:List X},KF ks xs=some l→SV.dens s xs=(wQ ks (l.map (X.den s))).map .v∧l.length=ks.length
 | [],[],l,h=>by cases h;exact⟨rfl,rfl⟩
 | k::ks,x::xs,l,h=>by
  simp only[KF] at h
  split at h
  ·rename_i a l' ha hl
   cases h
   obtain⟨h1,h2⟩:=QE s hl
   exact⟨by rw[SV.dens,h1,Tv s ha];rfl,by simp[h2]⟩
  ·cases h
 | [],_::_,l,h=>by cases h
 | _::_,[],l,h=>by cases h
theorem akR (s:vS) {h:Sh} {x:SV} {l:List X} (hh:Xt h x=some l):x.den s = .v (yx h (l.map (X.den s)))∧l.length=h.kinds.length:=by
 unfold Xt at hh
 split at hh
 ·split at hh
  ·rename_i a ha
   cases hh
   exact⟨Tv s ha,rfl⟩
  ·cases hh
 ·obtain⟨h1,h2⟩:=QE s hh
  exact⟨by simp only[SV.den,h1,SN];rfl,h2⟩
 ·obtain⟨h1,h2⟩:=QE s hh
  rw[EA] at h1
  refine⟨?_,h2⟩
  simp only[SV.den,yx]
  rename_i l0 cs
  have:cs.toList=wQ l0 (l.map (X.den s)):=by
   have:=congrArg yf h1
   rw[Jm,Jm] at this
   exact Option.some.inj this
  rw[← this]
 ·cases hh
theorem acK:∀ (ks:List VK) (p q:List Int),p.length=ks.length→wQ ks (p++q)=wQ ks p
 | [],[],q,_=>by cases q<;>rfl
 | k::ks,n::p,q,h=>by rw[List.cons_append,wQ,wQ,acK ks p q (by simpa using h)]
 | [],_::_,_,h=>by simp at h
 | _::_,[],_,h=>by simp at h
theorem XF (h:Sh) (p q:List Int) (hl:p.length=h.kinds.length):yx h (p++q)=yx h p:=by
 cases h with
 | sc k =>
  cases p with
  | nil=>simp[Sh.kinds] at hl
  | cons n p=>rfl
 | agg l=>simp only[yx];rw[acK l p q hl]
theorem Jt (s:vS):∀ {hs:List Sh} {xs:List SV} {l:List X},DX hs xs=some l→SV.dens s xs=(wJ hs (l.map (X.den s))).map .v∧l.length=(vD hs).length
 | [],[],l,h=>by cases h;exact⟨rfl,rfl⟩
 | h::hs,x::xs,l,hh=>by
  simp only[DX] at hh
  split at hh
  ·rename_i a l' ha hl
   cases hh
   obtain⟨h1,h2⟩:=Jt s hl
   obtain⟨h3,h4⟩:=akR s ha
   refine⟨?_,by simp[vD,h4] at h2 ⊢;omega⟩
   rw[SV.dens,h1,h3,wJ,List.map_append,XF _ _ _ (by simpa using h4),List.map_cons]
   rw[show(List.map (X.den s) a++List.map (X.den s) l').drop h.kinds.length=List.map (X.den s) l' by rw[List.drop_append_of_le_length (by simp[h4])];rw[List.drop_of_length_le (by simp[h4])];rfl]
  ·cases hh
 | [],_::_,l,h=>by cases h
 | _::_,[],l,h=>by cases h
theorem Tw {k:VK} {x:X} {n:Int} {s:vS} (h:x.den s=k.norm n):(Fp k x).den s = .v (xW k n):=by
 cases k with
 | int k=>simp only[Fp,SV.den,h,VK.norm,xW]
 | bool=>simp only[Fp,SV.den,h,VK.norm,xW,yN]
 | bit=>simp only[Fp,SV.den,h,VK.norm,xW]
 | nat=>simp only[Fp,SV.den,h,VK.norm,xW]
theorem Tx {s:vS} : ∀ {ks:List VK} {xs:List X} {ns:List Int},xs.map (X.den s)=zK ks ns→xs.length=ks.length→SV.dens s (EE ks xs)=(wQ ks ns).map .v
 | [],xs,ns,_,_=>by cases xs<;>rfl
 | k::ks,[],ns,_,hl=>by simp at hl
 | k::ks,x::xs,[],h,_=>by simp[zK] at h
 | k::ks,x::xs,n::ns,h,hl=>by
  simp only[List.map_cons,zK,List.cons.injEq] at h
  rw[EE,SV.dens,Tx h.2 (by simpa using hl),Tw h.1];rfl
theorem acL:∀ (ks js:List VK) (ns:List Int),(zK (ks++js) ns).take ks.length=zK ks ns
 | [],js,ns=>rfl
 | k::ks,js,[]=>rfl
 | k::ks,js,n::ns=>by rw[List.cons_append,zK,List.length_cons,List.take_succ_cons,acL ks js ns,zK]
theorem acM:∀ (ks js:List VK) (ns:List Int),(zK (ks++js) ns).drop ks.length=zK js (ns.drop ks.length)
 | [],js,ns=>rfl
 | k::ks,js,[]=>by cases js<;>simp[zK]
 | k::ks,js,n::ns=>by rw[List.cons_append,zK,List.length_cons,List.drop_succ_cons,acM ks js ns,List.drop_succ_cons]
theorem acN:∀ (ks:List VK) (xs:List X),EE ks (xs.take ks.length)=EE ks xs
 | [],xs=>by cases xs<;>rfl
 | k::ks,[]=>rfl
 | k::ks,x::xs=>by rw[List.length_cons,List.take_succ_cons,EE,acN ks xs,EE]
theorem akS {s:vS} {h:Sh} {js:List VK} {xs:List X} {ns:List Int} (hx:xs.map (X.den s)=zK (h.kinds++js) ns) (hl:xs.length=(h.kinds++js).length):(Xu h xs).den s = .v (yx h ns):=by
 cases h with
 | sc k =>
  cases xs with
  | nil=>simp[Sh.kinds] at hl
  | cons x xs =>
   cases ns with
   | nil=>simp[Sh.kinds,zK] at hx
   | cons n ns =>
    simp only[Sh.kinds,List.cons_append,List.nil_append,zK,List.map_cons,List.cons.injEq] at hx
    exact Tw hx.1
 | agg l =>
  simp only[Xu,SV.den,yx]
  have h1:(xs.take l.length).map (X.den s)=zK l ns:=by
   rw[List.map_take,hx];exact acL l js ns
  rw[← acN l xs,Tx h1 (by simp[Sh.kinds] at hl ⊢;omega),SN]
theorem Ib {s:vS} : ∀ {hs:List Sh} {xs:List X} {ns:List Int},xs.map (X.den s)=zK (vD hs) ns→xs.length=(vD hs).length→SV.dens s (ww hs xs)=(wJ hs ns).map .v
 | [],xs,ns,_,_=>rfl
 | h::hs,xs,ns,hx,hl=>by
  have hk:vD (h::hs)=h.kinds++vD hs:=by simp[vD]
  rw[hk] at hx hl
  rw[ww,SV.dens,akS hx hl,Ib (hs:=hs) (ns:=ns.drop h.kinds.length) (by rw[List.map_drop,hx,acM]) (by simp at hl ⊢;omega)]
  rfl
theorem Gc (s:vS):∀ (ks:List VK) (b:Nat),(wm b ks).map (X.den s)=zK ks (Ad s b ks.length)∧(wm b ks).length=ks.length
 | [],b=>⟨rfl,rfl⟩
 | k::ks,b=>by
  obtain⟨h1,h2⟩:=Gc s ks (b+1)
  refine⟨?_,by simp[wm,h2]⟩
  rw[wm,List.map_cons,h1];rfl
theorem acO (k:VK) (n:Int):MZ k n=k.norm n:=by
 cases k with
 | int k=>exact xR k n
 | bool=>simp only[MZ,VK.norm,zm]
 | bit=>simp only[MZ,VK.norm,zm]
 | nat=>rfl
def M7:List VK→List Int→List X
 | k::ks,n::ns=>.lit (MZ k n)::M7 ks ns
 | _,_=>[]
theorem XG {β:Sort _} : ∀ (ks:List VK) (ns:List Int) (K:List X→β),Qr ks ns K=K (M7 ks ns)
 | [],ns,K=>by cases ns<;>rfl
 | k::ks,[],K=>rfl
 | k::ks,n::ns,K=>by rw[Qr,Hy,XG ks ns];rfl
theorem XH (s:vS):∀ (ks:List VK) (ns:List Int),(M7 ks ns).map (X.den s)=zK ks ns
 | [],ns=>by cases ns<;>rfl
 | k::ks,[]=>rfl
 | k::ks,n::ns=>by rw[M7,List.map_cons,XH s ks ns,zK,X.den,acO]
theorem XI:∀ (ks:List VK) (ns:List Int),ns.length=ks.length→(M7 ks ns).length=ks.length
 | [],ns,_=>by cases ns<;>rfl
 | k::ks,[],h=>by simp at h
 | k::ks,n::ns,h=>by rw[M7];simp[XI ks ns (by simpa using h)]
theorem XJ (s:vS):∀ {xs:List X} {ns:List Int},Qs xs=some ns→xs.map (X.den s)=ns
 | [],ns,h=>by cases h;rfl
 | .lit n::l,ns,h=>by
  simp only[Qs] at h
  split at h
  ·rename_i r hr;cases h;rw[List.map_cons,XJ s hr];rfl
  ·cases h
 | .var _ _::_,_,h=>by cases h
 | .bin _ _ _ _::_,_,h=>by cases h
 | .conv _ _::_,_,h=>by cases h
 | .com _ _::_,_,h=>by cases h
 | .not _::_,_,h=>by cases h
 | .and _ _::_,_,h=>by cases h
 | .beq _ _::_,_,h=>by cases h
 | .min _ _::_,_,h=>by cases h
 | .max _ _::_,_,h=>by cases h
 | .ite _ _ _::_,_,h=>by cases h
 | .dlen _::_,_,h=>by cases h
theorem XK {s:vS} {l:List SV} {vs:List Value} (h:SV.dens s l=vs.map .v):(resS l).den s = .v (xG vs):=by
 match l,vs,h with
 | [],[],_=>simp only[resS,SV.den,SV.dens,xG];exact SQ []
 | [x],[v],h=>simpa [SV.dens,resS,xG] using h
 | x::y::l,v::u::vs,h =>
  simp only[resS,SV.den,h,SQ,xG]
 | [],v::vs,h=>simp[SV.dens] at h
 | x::l,[],h=>simp[SV.dens] at h
 | [x],v::u::vs,h=>simp[SV.dens] at h
 | x::y::l,[v],h=>simp[SV.dens] at h
theorem M8 (s:vS) (l:List SV):Fa (SV.dens s l)=(resS l).den s:=by
 match l with
 | []=>rfl
 | [x]=>rfl
 | x::y::l=>rfl
mutual
theorem acP (s:vS) (c:X):∀ {a b r:SV},xX c a b=some r→r.den s=if c.den s=0 then b.den s else a.den s
 | .int k a,.int k' b,r,h=>by
  simp only[xX] at h
  split at h
  ·rename_i hk
   cases h
   have:=Be hk;subst this
   simp only[SV.den,Qj];split<;>rfl
  ·cases h
 | .bool a,.bool b,r,h=>by
  simp only[xX] at h
  cases h
  simp only[SV.den,Qj];split<;>rfl
 | .agg l,.agg m,r,h=>by
  simp only[xX] at h
  split at h
  ·rename_i q hq
   cases h
   have:=XL s c hq
   simp only[SV.den,this];split<;>rfl
  ·cases h
 | .tup l,.tup m,r,h=>by
  simp only[xX] at h
  split at h
  ·rename_i q hq
   cases h
   have:=XL s c hq
   simp only[SV.den,this];split<;>rfl
  ·cases h
 | .v _,_,_,h=>by simp[xX] at h
 | .loc _ _,_,_,h=>by simp[xX] at h
 | .sl _ _ _ _,_,_,h=>by simp[xX] at h
 | .fn _ _ _,_,_,h=>by simp[xX] at h
 | .int _ _,.v _,_,h=>by simp[xX] at h
 | .int _ _,.bool _,_,h=>by simp[xX] at h
 | .int _ _,.loc _ _,_,h=>by simp[xX] at h
 | .int _ _,.sl _ _ _ _,_,h=>by simp[xX] at h
 | .int _ _,.fn _ _ _,_,h=>by simp[xX] at h
 | .int _ _,.tup _,_,h=>by simp[xX] at h
 | .int _ _,.agg _,_,h=>by simp[xX] at h
 | .bool _,.v _,_,h=>by simp[xX] at h
 | .bool _,.int _ _,_,h=>by simp[xX] at h
 | .bool _,.loc _ _,_,h=>by simp[xX] at h
 | .bool _,.sl _ _ _ _,_,h=>by simp[xX] at h
 | .bool _,.fn _ _ _,_,h=>by simp[xX] at h
 | .bool _,.tup _,_,h=>by simp[xX] at h
 | .bool _,.agg _,_,h=>by simp[xX] at h
 | .agg _,.v _,_,h=>by simp[xX] at h
 | .agg _,.int _ _,_,h=>by simp[xX] at h
 | .agg _,.bool _,_,h=>by simp[xX] at h
 | .agg _,.loc _ _,_,h=>by simp[xX] at h
 | .agg _,.sl _ _ _ _,_,h=>by simp[xX] at h
 | .agg _,.fn _ _ _,_,h=>by simp[xX] at h
 | .agg _,.tup _,_,h=>by simp[xX] at h
 | .tup _,.v _,_,h=>by simp[xX] at h
 | .tup _,.int _ _,_,h=>by simp[xX] at h
 | .tup _,.bool _,_,h=>by simp[xX] at h
 | .tup _,.loc _ _,_,h=>by simp[xX] at h
 | .tup _,.sl _ _ _ _,_,h=>by simp[xX] at h
 | .tup _,.fn _ _ _,_,h=>by simp[xX] at h
 | .tup _,.agg _,_,h=>by simp[xX] at h
theorem XL (s:vS) (c:X):∀ {a b r:List SV},Jr c a b=some r→SV.dens s r=if c.den s=0 then SV.dens s b else SV.dens s a
 | [],[],r,h=>by simp only[Jr] at h;cases h;split<;>rfl
 | x::l,y::m,r,h=>by
  simp only[Jr] at h
  split at h
  ·rename_i q qs h1 h2
   cases h
   have e1:=acP s c h1
   have e2:=XL s c h2
   simp only[SV.dens,e1,e2];split<;>rfl
  ·cases h
 | [],_::_,_,h=>by simp[Jr] at h
 | _::_,[],_,h=>by simp[Jr] at h
end
theorem acQ:∀ {a b:List Nat},M4 a b=true→a=b
 | [],[],_=>rfl
 | x::l,y::m,h=>by
  simp only[M4] at h
  split at h
  ·rename_i hb;rw[wR.1 hb,acQ h]
  ·cases h
 | [],_::_,h=>by simp[M4] at h
 | _::_,[],h=>by simp[M4] at h
theorem KJ {Φ:yY} {s:vS} {tc:List Nat} {nv:Nat} : ∀ {t:vo CR} {x:X} {o:Option SV},Js tc nv t=some (x,o)→x.den s≠0→∃ r,t.path Φ s=some r∧r.tc=tc∧r.ef = []∧∃ z,o=some z∧z.den s=r.r.den s
 | .leaf r,x,o,h,hx=>by
  simp only[Js] at h
  split at h
  ·rename_i he
   split at h
   ·rename_i h1 h2
    cases h
    exact⟨r,rfl,acQ h1,he,_,rfl,rfl⟩
   ·cases h
  ·cases h
 | .stuck w,x,o,h,hx=>by simp only[Js,Option.some.injEq,Prod.mk.injEq] at h;rw[← h.1] at hx;exact absurd rfl hx
 | .call _ _ _ _ _,x,o,h,hx=>by simp[Js] at h
 | .ite c a b,x,o,h,hx=>by
  simp only[Js] at h
  split at h
  ·rename_i y1 y2 q h1 h2
   cases h
   rw[Qj] at hx
   by_cases hc:c.den s=0
   ·rw[if_pos hc] at hx
    obtain⟨r,hr,h3⟩:=KJ (Φ:=Φ) h2 hx
    exact⟨r,by simp only[vo.path,if_pos hc];exact hr,h3⟩
   ·rw[if_neg hc] at hx
    obtain⟨r,hr,_,_,z,hz,_⟩:=KJ (Φ:=Φ) h1 hx
    cases hz
  ·rename_i y1 q y2 hno h1 h2
   cases h
   rw[Qj] at hx
   by_cases hc:c.den s=0
   ·rw[if_pos hc] at hx
    obtain⟨r,hr,_,_,z,hz,_⟩:=KJ (Φ:=Φ) h2 hx
    cases hz
   ·rw[if_neg hc] at hx
    obtain⟨r,hr,h3⟩:=KJ (Φ:=Φ) h1 hx
    exact⟨r,by simp only[vo.path,if_neg hc];exact hr,h3⟩
  ·rename_i y1 q1 y2 q2 h1 h2
   split at h
   ·rename_i z hz
    cases h
    have hzd:=acP s c hz
    rw[Qj] at hx
    by_cases hc:c.den s=0
    ·rw[if_pos hc] at hx hzd
     obtain⟨r,hr,h3,h4,u,hu,h5⟩:=KJ (Φ:=Φ) h2 hx
     cases hu
     exact⟨r,by simp only[vo.path,if_pos hc];exact hr,h3,h4,_,rfl,hzd.trans h5⟩
    ·rw[if_neg hc] at hx hzd
     obtain⟨r,hr,h3,h4,u,hu,h5⟩:=KJ (Φ:=Φ) h1 hx
     cases hu
     exact⟨r,by simp only[vo.path,if_neg hc];exact hr,h3,h4,_,rfl,hzd.trans h5⟩
   ·cases h
  ·cases h
theorem akT {Φ:yY} {s:vS} {tc:List Nat} {nv:Nat} {fc:Facts} {t:vo CR} {r':CR} (hf:xC s fc) (h:(XB tc nv fc t).path Φ s=some r'):∃ r,t.path Φ s=some r∧r.r.den s=r'.r.den s∧r.tc=r'.tc∧r.ef=r'.ef∧(xC s r.fc→xC s r'.fc):=by
 unfold XB at h
 split at h
 ·rename_i c a b
  split at h
  ·rename_i x z hm
   rw[WG] at h
   split at h
   ·cases h
   ·rename_i hx
    cases h
    obtain⟨r,h1,h2,h3,u,hu,h4⟩:=KJ (Φ:=Φ) hm hx
    cases hu
    exact⟨r,h1,h4.symm,h2,h3,fun _=>hf⟩
  ·exact⟨r',h,rfl,rfl,rfl,id⟩
 ·exact⟨r',h,rfl,rfl,rfl,id⟩
open Go.RowKit
mutual
theorem SV.den_refs (s:vS):∀ (x:SV) {r:Nat},r∈(x.den s).refs→r∈x.refs
 | .v _,r,h=>by simp[SV.den,AV.refs] at h
 | .int _ _,r,h=>by simp[SV.den,AV.refs] at h
 | .bool _,r,h=>by simp[SV.den,AV.refs] at h
 | .loc b o,r,h=>by simpa [SV.den,AV.refs,SV.refs] using h
 | .sl b o l c,r,h=>by simpa [SV.den,AV.refs,SV.refs] using h
 | .hd k,r,h=>by simpa [SV.den,AV.refs,SV.refs] using h
 | .ha k off,r,h=>by simpa [SV.den,AV.refs,SV.refs] using h
 | .fn g a c,r,h=>by
  rw[SV.den] at h
  rw[SV.refs]
  rcases List.mem_append.1 (aby h) with h|h
  ·exact List.mem_append_left _ (SV.dens_refs s a h)
  ·exact List.mem_append_right _ (SV.dens_refs s c h)
 | .tup l,r,h=>by rw[SV.den] at h;rw[SV.refs];exact SV.dens_refs s l (aiN h)
 | .agg l,r,h=>by rw[SV.den] at h;rw[SV.refs];exact SV.dens_refs s l (VG h)
theorem SV.dens_refs (s:vS):∀ (l:List SV) {r:Nat},r∈AV.refss (SV.dens s l)→r∈SV.refss l
 | [],r,h=>by simp[SV.dens,AV.refss] at h
 | x::l,r,h=>by
  rw[SV.dens,AV.refss] at h
  rw[SV.refss]
  rcases List.mem_append.1 h with h|h
  ·exact List.mem_append_left _ (SV.den_refs s x h)
  ·exact List.mem_append_right _ (SV.dens_refs s l h)
end
theorem QF (f:Nat→Nat):∀ l:List AV,yf (AV.rens f l)=yf l
 | []=>rfl
 | .v x::l=>by simp only[AV.rens,AV.ren,yf,QF f l]
 | .loc _ _::l=>rfl
 | .sl _ _ _ _::l=>rfl
 | .hd _::l=>rfl
 | .ha _ _::l=>rfl
 | .fn _ _ _::l=>rfl
 | .tup _::l=>rfl
 | .agg _::l=>rfl
theorem akU (f:Nat→Nat) (l:List AV):(Ap l).ren f=Ap (AV.rens f l):=by
 unfold Ap;rw[QF];cases yf l<;>rfl
theorem akV (f:Nat→Nat) (l:List AV):(Bn l).ren f=Bn (AV.rens f l):=by
 unfold Bn;rw[QF];cases yf l<;>rfl
theorem akW (f:Nat→Nat) (g:Fn) (a c:List AV):(Bo g a c).ren f=Bo g (AV.rens f a) (AV.rens f c):=by
 unfold Bo;rw[QF,QF];cases yf a<;>cases yf c<;>rfl
mutual
theorem SV.den_ren (s:vS) (f:Nat→Nat):∀ x:SV,(x.ren f).den s=(x.den s).ren f
 | .v _=>rfl
 | .int _ _=>rfl
 | .bool _=>rfl
 | .loc b o=>rfl
 | .hd k=>rfl
 | .ha k off=>rfl
 | .sl b o l c=>rfl
 | .fn g a c=>by simp only[SV.ren,SV.den,akW,SV.dens_ren s f a,SV.dens_ren s f c]
 | .tup l=>by simp only[SV.ren,SV.den,akV,SV.dens_ren s f l]
 | .agg l=>by simp only[SV.ren,SV.den,akU,SV.dens_ren s f l]
theorem SV.dens_ren (s:vS) (f:Nat→Nat):∀ l:List SV,SV.dens s (SV.rens f l)=AV.rens f (SV.dens s l)
 | []=>rfl
 | x::l=>by simp only[SV.rens,SV.dens,AV.rens,SV.den_ren s f x,SV.dens_ren s f l]
end
mutual
theorem AV.ren_id {f:Nat→Nat} : ∀ x:AV,(∀ r∈x.refs,f r=r)→x.ren f=x
 | .v _,_=>rfl
 | .loc b o,h=>by simp only[AV.ren];rw[h b (by simp[AV.refs])]
 | .sl b o l c,h=>by simp only[AV.ren];rw[h b (by simp[AV.refs])]
 | .hd k,h=>by simp only[AV.ren];rw[h k (by simp[AV.refs])]
 | .ha k o,h=>by simp only[AV.ren];rw[h k (by simp[AV.refs])]
 | .fn g a c,h=>by
  simp only[AV.ren]
  rw[AV.rens_id a (fun r hr=>h r (by rw[AV.refs];exact List.mem_append_left _ hr)),AV.rens_id c (fun r hr=>h r (by rw[AV.refs];exact List.mem_append_right _ hr))]
 | .tup l,h=>by simp only[AV.ren];rw[AV.rens_id l (fun r hr=>h r (by rw[AV.refs];exact hr))]
 | .agg l,h=>by simp only[AV.ren];rw[AV.rens_id l (fun r hr=>h r (by rw[AV.refs];exact hr))]
theorem AV.rens_id {f:Nat→Nat} : ∀ l:List AV,(∀ r∈AV.refss l,f r=r)→AV.rens f l=l
 | [],_=>rfl
 | x::l,h=>by
  rw[AV.rens,AV.ren_id x (fun r hr=>h r (by rw[AV.refss];exact List.mem_append_left _ hr)),AV.rens_id l (fun r hr=>h r (by rw[AV.refss];exact List.mem_append_right _ hr))]
end
theorem QG {n:Nat} : ∀ {l:List Nat},xZ n l=true↔n∈l
 | []=>by simp[xZ]
 | x::l=>by
  simp only[xZ]
  cases h:Nat.beq x n with
  | true=>simp only[wR.1 h,List.mem_cons,true_or]
  | false =>
   simp only[]
   rw[QG,List.mem_cons]
   constructor
   ·exact .inr
   ·rintro(rfl|h1)
    ·simp at h
    ·exact h1
theorem Ic {j:Nat} : ∀ {H:SH},(∃ o,hget H j=some o)↔j∈keysOf H
 | []=>by simp[hget,keysOf]
 | x::l=>by
  simp only[hget,keysOf]
  cases h:Nat.beq x.1 j with
  | true=>simp[wR.1 h]
  | false =>
   simp only[]
   rw[Ic,List.mem_cons]
   constructor
   ·exact .inr
   ·rintro(rfl|h1)
    ·simp at h
    ·exact h1
theorem acR {k:Nat} : ∀ {H:SH},Qy k H=true→∀ j∈keysOf H,j<k
 | [],_,j,h=>by simp[keysOf] at h
 | x::l,h,j,hj=>by
  simp only[Qy] at h
  split at h
  ·rename_i hb
   simp only[keysOf,List.mem_cons] at hj
   rcases hj with rfl|hj
   ·simpa [Nat.blt_eq] using hb
   ·exact acR h j hj
  ·cases h
structure Reached (H:SH) (l:List Nat) (R:SH):Prop where
 sub:∀ b o,hget R b=some o→hget H b=some o
 cl:∀ b o,hget R b=some o→∀ r∈SV.refss o.c,r∈keysOf R
 all:∀ b∈l,b∈keysOf R
theorem XM {H:SH} : ∀ {n:Nat} {todo:List Nat} {acc R:SH},M3 H n todo acc=some R→(∀ b o,hget acc b=some o→hget H b=some o)→(∀ b o,hget acc b=some o→∀ r∈SV.refss o.c,r∈todo∨r∈keysOf acc) →
  Reached H todo R∧∀ b∈keysOf acc,b∈keysOf R
 | 0,_,_,_,h,_,_=>by cases h
 | n+1,[],acc,R,h,h1,h2=>by
  simp only[M3,Option.some.injEq] at h;subst h
  exact⟨⟨h1,fun b o hb r hr=>(h2 b o hb r hr).resolve_left (by simp),fun b hb=>by simp at hb⟩,fun b hb=>hb⟩
 | n+1,b::todo,acc,R,h,h1,h2=>by
  simp only[M3] at h
  split at h
  ·rename_i o ho
   have hk:b∈keysOf acc:=Ic.1 ⟨o,ho⟩
   obtain⟨h3,h4⟩:=XM h h1 (fun b' o' hb' r hr=>by
    rcases h2 b' o' hb' r hr with h5|h5
    ·rcases List.mem_cons.1 h5 with rfl|h5
     ·exact .inr hk
     ·exact .inl h5
    ·exact .inr h5)
   refine⟨⟨h3.sub,h3.cl,fun b' hb'=>?_⟩,h4⟩
   rcases List.mem_cons.1 hb' with rfl|hb'
   ·exact h4 _ hk
   ·exact h3.all _ hb'
  ·split at h
   ·cases h
   ·rename_i hno _ o ho
    have hget':∀ b' o',hget ((b,o)::acc) b'=some o'→(b'=b∧o'=o)∨hget acc b'=some o':=fun b' o' hb'=>by
     simp only[hget] at hb'
     split at hb'
     ·rename_i he;cases hb';exact .inl ⟨(wR.1 he).symm,rfl⟩
     ·exact .inr hb'
    obtain⟨h3,h4⟩:=XM h (fun b' o' hb'=>by
     rcases hget' b' o' hb' with⟨rfl,rfl⟩|hb'
     ·exact ho
     ·exact h1 b' o' hb') (fun b' o' hb' r hr=>by
     rcases hget' b' o' hb' with⟨rfl,rfl⟩|hb'
     ·exact .inl (List.mem_append_left _ hr)
     ·rcases h2 b' o' hb' r hr with h5|h5
      ·rcases List.mem_cons.1 h5 with rfl|h5
       ·exact .inr (by simp[keysOf])
       ·exact .inl (List.mem_append_right _ h5)
      ·exact .inr (by simp[keysOf,h5]))
    refine⟨⟨h3.sub,h3.cl,fun b' hb'=>?_⟩,fun b' hb'=>h4 _ (by simp[keysOf,hb'])⟩
    rcases List.mem_cons.1 hb' with rfl|hb'
    ·exact h4 _ (by simp[keysOf])
    ·exact h3.all _ (List.mem_append_right _ hb')
theorem acS {H:SH} {l:List Nat} {R:SH} (h:reach H l=some R):Reached H l R:=by
 unfold reach at h
 split at h
 ·cases h;exact⟨fun b o hb=>(by cases hb),fun b o hb=>(by cases hb),fun b hb=>(by cases hb)⟩
 ·exact(XM h (fun b o hb=>(by cases hb)) (fun b o hb=>(by cases hb))).1
theorem acT {k:Nat} {objs:SH} : ∀ {R:SH} {nw:List Nat},Qx k objs R=some nw→(∀ j∈keysOf R,j∈nw∨j∈keysOf objs)∧∀ n∈nw,k≤n∧n∈keysOf R
 | [],nw,h=>by cases h;exact⟨fun j hj=>by simp[keysOf] at hj,fun n hn=>by simp at hn⟩
 | x::l,nw,h=>by
  simp only[Qx] at h
  split at h
  ·cases h
  ·rename_i r hr
   obtain⟨h1,h2⟩:=acT hr
   split at h
   ·rename_i hk
    cases h
    refine⟨fun j hj=>?_,fun n hn=>?_⟩
    ·simp only[keysOf,List.mem_cons] at hj
     rcases hj with rfl|hj
     ·exact .inl List.mem_cons_self
     ·exact(h1 j hj).imp (List.mem_cons_of_mem _) id
    ·rcases List.mem_cons.1 hn with rfl|hn
     ·exact⟨Nat.le_of_ble_eq_true hk,by simp[keysOf]⟩
     ·exact⟨(h2 n hn).1,by simp[keysOf,(h2 n hn).2]⟩
   ·split at h
    ·rename_i o ho
     cases h
     refine⟨fun j hj=>?_,fun n hn=>⟨(h2 n hn).1,by simp[keysOf,(h2 n hn).2]⟩⟩
     simp only[keysOf,List.mem_cons] at hj
     rcases hj with rfl|hj
     ·exact .inr (Ic.1 ⟨o,ho⟩)
     ·exact h1 j hj
    ·cases h
theorem Ie {dt:List Nat} {j:Nat} : ∀ {H:SH},j∈CP dt H↔j∈keysOf H∧xZ j dt=true
 | []=>by simp[CP,keysOf]
 | x::l=>by
  simp only[CP,keysOf]
  cases h:xZ x.1 dt with
  | true =>
   simp only[List.mem_cons,Ie (H:=l)]
   constructor
   ·rintro(rfl|h1)
    ·exact⟨.inl rfl,h⟩
    ·exact⟨.inr h1.1,h1.2⟩
   ·rintro⟨rfl|h1,h2⟩
    ·exact .inl rfl
    ·exact .inr ⟨h1,h2⟩
  | false =>
   simp only[List.mem_cons,Ie (H:=l)]
   constructor
   ·rintro⟨h1,h2⟩;exact⟨.inr h1,h2⟩
   ·rintro⟨rfl|h1,h2⟩
    ·rw[h] at h2;cases h2
    ·exact⟨h1,h2⟩
def M9 (s:vS) (f:Nat→Nat) (o:SO):AO:=(⟨SV.rens f o.c,o.t⟩:SO).den s
theorem akX (f:Nat→Nat):∀ c:List SV,H7 (SV.rens f c)=H7 c
 | []=>rfl
 | [x]=>by cases x<;>rfl
 | x::y::l=>by cases x<;>cases y<;>rfl
theorem akY (f:Nat→Nat):∀ c:List SV,CO (SV.rens f c)=CO c
 | []=>rfl
 | [x]=>by cases x<;>rfl
 | x::y::l=>rfl
theorem acU (f:Nat→Nat):∀ l:List SV,(SV.rens f l).map SX=l.map SX
 | []=>rfl
 | x::l=>by
  rw[SV.rens,List.map_cons,List.map_cons,acU f l]
  cases x<;>rfl
theorem akZ (f:Nat→Nat):∀ c:List SV,Dn (SV.rens f c)=Dn c
 | []=>rfl
 | [x]=>rfl
 | [x,y]=>rfl
 | x::y::z::l=>by
  have e1:SY (SV.ren f x)=SY x:=by cases x<;>rfl
  have e2:S9 (SV.ren f y)=S9 y:=by cases y<;>rfl
  have e3:Ta (SV.ren f z)=Ta z:=by cases z<;>rfl
  simp only[SV.rens,Dn,acU,e1,e2,e3]
theorem acV (s:vS) (f:Nat→Nat) (o:SO):M9 s f o=AO.ren f (o.den s):=by
 obtain⟨c,t⟩:=o
 cases t with
 | some t=>unfold M9 SO.den AO.ren;simp only[SV.dens_ren]
 | none =>
  unfold M9 SO.den
  simp only[akX,akY,akZ]
  cases CO c with
  | some es=>rfl
  | none=>cases Dn c<;>rfl
theorem KL:∀ {l:SH} {k:Nat} {o:SO},KG l=true→hget l k=some o→∃ t,o.t=some t
 | [],k,o,_,h=>by cases h
 | x::l,k,o,ha,h=>by
  simp only[KG] at ha
  simp only[hget] at h
  split at ha
  ·rename_i t ht
   split at h
   ·cases h;exact⟨t,ht⟩
   ·exact KL ha h
  ·cases ha
theorem acW:∀ (a b:List (Nat×AO)) (H:vE),H.puts (a++b)=(H.puts a).puts b
 | [],b,H=>rfl
 | x::a,b,H=>by rw[List.cons_append,vE.puts,vE.puts,acW a b]
theorem XN (s:vS) (f:Nat→Nat) (Hh:SH):∀ (l:List Nat) (H:vE) (j:Nat),(H.puts (wY s (Gb f Hh l))) j=match (match xZ j l with|true=>hget Hh j|false=>none) with|some o=>some (M9 s f o)|none=>H j
 | [],H,j=>rfl
 | b::l,H,j=>by
  simp only[Gb]
  cases ho:hget Hh b with
  | some o =>
   simp only[]
   rw[wY,List.map_cons,vE.puts]
   have ih:=XN s f Hh l (H.put b (M9 s f o)) j
   rw[wY] at ih
   refine ih.trans ?_
   simp only[xZ]
   cases hb:Nat.beq b j with
   | true =>
    have:=wR.1 hb;subst this
    simp only[ho]
    cases xZ b l with
    | true=>simp only[ho]
    | false=>simp only[vE.put_same]
   | false =>
    simp only[]
    cases hm:xZ j l with
    | true =>
     simp only[]
     cases hget Hh j with
     | some _=>rfl
     | none=>simp only[];exact vE.put_ne _ _ _ (fun e=>by subst e;simp at hb)
    | false=>simp only[];exact vE.put_ne _ _ _ (fun e=>by subst e;simp at hb)
  | none =>
   simp only[]
   refine(XN s f Hh l H j).trans ?_
   simp only[xZ]
   cases hb:Nat.beq b j with
   | true =>
    have:=wR.1 hb;subst this
    simp only[ho]
    cases xZ b l<;>simp only[ho]
   | false=>rfl
structure Names (k:Nat) (nw:List Nat) (m:List (Nat×Nat)) (f:Nat→Nat) (src:Nat→Option Nat):Prop where
 old:∀ j,j<k→f j=j
 new:∀ n∈nw,src (f n)=some n
 srcOld:∀ j,j<k→src j=none
 srcNew:∀ j n,src j=some n→n∈nw∧f n=j∧(j=k∨j=k+1)
theorem ak0 {k:Nat} {nw:List Nat} {m:List (Nat×Nat)} (h:Tq k nw=some m) (hk:∀ n∈nw,k≤n):∃ src,Names k nw m (zf m) src∧∀ (s:vS) (Hh:SH),(∀ n∈nw,∃ o,hget Hh n=some o)→∀ (H:vE) (j:Nat),
  (H.puts (wY s (Fq (zf m) Hh nw))) j=match src j with|some n=>(hget Hh n).map (M9 s (zf m))|none=>H j:=by
 unfold Tq at h
 split at h
 ·cases h
  exact⟨fun _=>none,⟨fun _ _=>rfl,fun n hn=>by simp at hn,fun _ _=>rfl,fun _ _ h=>by cases h⟩,fun s Hh _ H j=>rfl⟩
 ·rename_i n1
  cases h
  have h1:=hk n1 (by simp)
  refine⟨fun j=>if j=k then some n1 else none,⟨?_,?_,?_,?_⟩,?_⟩
  ·intro j hj
   simp only[zf]
   cases hb:Nat.beq n1 j with
   | true=>have:=wR.1 hb;omega
   | false=>rfl
  ·intro n hn
   simp only[List.mem_singleton] at hn;subst hn
   simp[zf]
  ·intro j hj;simp;omega
  ·intro j n hs
   split at hs
   ·rename_i hj;cases hs;subst hj;exact⟨by simp,by simp[zf],.inl rfl⟩
   ·cases hs
  ·intro s Hh hH H j
   obtain⟨o,ho⟩:=hH n1 (by simp)
   simp only[Fq,ho,wY,List.map_cons,List.map_nil,vE.puts]
   have hf:zf [(n1,k)] n1=k:=by simp[zf]
   rw[hf]
   by_cases hj:j=k
   ·subst hj;simp only[if_true,vE.put_same,ho];rfl
   ·simp only[if_neg hj];exact vE.put_ne _ _ _ hj
 ·rename_i n1 n2
  split at h
  ·cases h
  ·rename_i hne
   cases h
   have h1:=hk n1 (by simp);have h2:=hk n2 (by simp)
   have hne':n1≠n2:=fun e=>by subst e;simp at hne
   have f1:zf [(n1,k),(n2,k+1)] n1=k:=by simp[zf]
   have f2:zf [(n1,k),(n2,k+1)] n2=k+1:=by
    simp only[zf,hne];simp
   refine⟨fun j=>if j=k then some n1 else if j=k+1 then some n2 else none,⟨?_,?_,?_,?_⟩,?_⟩
   ·intro j hj
    simp only[zf]
    cases hb:Nat.beq n1 j with
    | true=>have:=wR.1 hb;omega
    | false =>
     simp only[]
     cases hb2:Nat.beq n2 j with
     | true=>have:=wR.1 hb2;omega
     | false=>rfl
   ·intro n hn
    simp only[List.mem_cons,List.not_mem_nil,or_false] at hn
    rcases hn with rfl|rfl
    ·rw[f1];simp
    ·rw[f2];simp
   ·intro j hj
    rw[if_neg (by omega),if_neg (by omega)]
   ·intro j n hs
    split at hs
    ·rename_i hj;cases hs;subst hj;exact⟨by simp,f1,.inl rfl⟩
    ·split at hs
     ·rename_i hj;cases hs;subst hj;exact⟨by simp,f2,.inr rfl⟩
     ·cases hs
   ·intro s Hh hH H j
    obtain⟨o1,ho1⟩:=hH n1 (by simp)
    obtain⟨o2,ho2⟩:=hH n2 (by simp)
    simp only[Fq,ho1,ho2,wY,List.map_cons,List.map_nil,vE.puts,f1,f2]
    by_cases hj:j=k
    ·subst hj
     rw[vE.put_ne _ _ _ (by omega),vE.put_same]
     simp only[if_true,ho1];rfl
    ·by_cases hj2:j=k+1
     ·subst hj2
      rw[vE.put_same]
      simp only[if_neg hj,if_true,ho2];rfl
     ·rw[vE.put_ne _ _ _ hj2,vE.put_ne _ _ _ hj]
      simp only[if_neg hj,if_neg hj2]
 ·cases h
theorem XO:∀ (l:List SV) (n t:Nat),zD (zF l n) t=match l[t]? with|some x=>if t<n then some x else none|none=>if t<n then some (.v undef) else none
 | [],0,t=>by simp[zF,zD]
 | [],n+1,0=>by simp[zF,zD]
 | [],n+1,t+1=>by
  simp only[zF,zD]
  rw[XO [] n t];simp
 | x::l,0,t=>by
  simp only[zF,zD]
  cases (x::l)[t]? <;> simp
 | x::l,n+1,0=>by simp[zF,zD]
 | x::l,n+1,t+1=>by
  simp only[zF,zD]
  rw[XO l n t];simp
theorem QH (s:vS) (l:List SV) (n:Nat):wE.den s (zF l n)=Hr (SV.dens s l) n:=by
 funext t
 unfold wE.den Hr
 rw[XO,SV.dens_map,List.getElem?_map]
 cases l[t]? with
 | some x=>simp only[Option.map_some];split<;>rfl
 | none=>simp only[Option.map_none];split<;>rfl
theorem KM:∀ (l:List SV) (n:Nat),l.length≤n→(zF l n).length=n
 | [],0,_=>rfl
 | [],n+1,_=>by rw[zF];simp[KM [] n (by simp)]
 | x::l,0,h=>by simp at h
 | x::l,n+1,h=>by rw[zF];simp[KM l n (by simpa using h)]
theorem KN {P:Program} {G:wD} (s:vS) {T:wE} {H:SH} : ∀ {l:List ResultVar} {rs:List SV},Af P T H l=some rs→CB P G (wE.den s T) (SH.den s H) l=some (SV.dens s rs)
 | [],rs,h=>by cases h;rfl
 | .tmp t::l,rs,h=>by
  simp only[Af] at h
  split at h
  ·rename_i x r hx hr
   cases h
   simp only[CB,KN s hr]
   have:wE.den s T t=some (x.den s):=by simp[wE.den,hx]
   rw[this];rfl
  ·cases h
 | .cell a t::l,rs,h=>by
  simp only[Af] at h
  split at h
  ·rename_i b o hx
   split at h
   ·rename_i ob hob
    split at h
    ·rename_i t0 ht0
     split at h
     ·rename_i x r hx2 hr
      cases h
      have:wE.den s T a=some (.loc b o):=by simp[wE.den,hx,SV.den]
      simp only[CB,this,BF,SH.den_get hob ht0,KA s hx2,KN s hr];rfl
     ·cases h
    ·cases h
   ·cases h
  ·cases h
structure Dq (C:xA) (s:vS) (g:FuncId) (args:List SV) (H:SH) (k:Nat) (r:CR):Prop where
 tc:∀ b∈r.tc,SH.den s H b≠none
 ef:∀ x∈wY s r.ef,x.1=k∨x.1=k+1∨x.1∈r.tc
 fc:xC s r.fc
 ok:∀ w0 B0,Kq C.P C.G w0 B0 g (SV.dens s args) (SH.den s H) r.tc k (r.r.den s) (wY s r.ef)
def DOK (H0:SH) (dt:List Nat) (H:SH):Prop:=∀ j,xZ j dt=false→hget H j=hget H0 j
def AL (s:vS) (ex:Exit) (st:St):Cz:=fun x N T H=>x=ex∧N=st.N∧T=wE.den s st.T∧H=SH.den s st.H
theorem XP {s:vS} {f:Nat→Nat} {Hh:SH} : ∀ {l:List Nat} {x:Nat×AO},x∈wY s (Gb f Hh l)→x.1∈l
 | [],x,h=>by simp[Gb,wY] at h
 | b::l,x,h=>by
  simp only[Gb] at h
  split at h
  ·rw[wY,List.map_cons] at h
   rcases List.mem_cons.1 h with rfl|h
   ·exact List.mem_cons_self
   ·exact List.mem_cons_of_mem _ (XP h)
  ·exact List.mem_cons_of_mem _ (XP h)
theorem XQ {s:vS} {f:Nat→Nat} {Hh:SH} : ∀ {l:List Nat} {x:Nat×AO},x∈wY s (Fq f Hh l)→∃ n∈l,x.1=f n
 | [],x,h=>by simp[Fq,wY] at h
 | b::l,x,h=>by
  simp only[Fq] at h
  split at h
  ·rw[wY,List.map_cons] at h
   rcases List.mem_cons.1 h with rfl|h
   ·exact⟨b,List.mem_cons_self,rfl⟩
   ·obtain⟨n,hn,e⟩:=XQ h;exact⟨n,List.mem_cons_of_mem _ hn,e⟩
  ·obtain⟨n,hn,e⟩:=XQ h;exact⟨n,List.mem_cons_of_mem _ hn,e⟩
theorem acY {C:xA} {E:xK} {s:vS} {g:FuncId} {fn:Func} {cd:Code} {args:List SV} {H objs:SH} {k:Nat} {ex:Exit} {st:St} {rs:List SV} {R2:SH} {nw:List Nat} {m:List (Nat×Nat)} {fc:Facts}
  (hf:C.P.funcs[g]? = some fn) (hb:fn.body=some cd) (hn:(fn.name == "runtime.NumGoroutine")=false) (hro:reach H (SV.refss args)=some objs) (hl:Nat.ble args.length fn.ntmps=true) (hk:Qy k objs=true)
  (hA:∀ w0 B0,AW ⟨C.P,C.G,E,w0,B0,fn.ntmps⟩ cd (AL s ex st) k (wE.den s (zF args fn.ntmps)) (SH.den s objs)) (hex:ex = .normal∨ex = .ret) (hD:DOK objs st.dt st.H) (hfc:xC s fc)
  (hrs:Af C.P st.T st.H fn.results.toList=some rs) (hR2:reach st.H (SV.refss rs++CP st.dt objs)=some R2) (hw0:KG objs=true) (hw2:KG R2=true) (hnw:Qx k objs R2=some nw) (hm:Tq k nw=some m) (nv:Nat) :
  Dq C s g args H k ⟨(resS rs).ren (zf m),keysOf objs,Gb (zf m) st.H (CP st.dt objs)++Fq (zf m) st.H nw,nv,fc⟩:=by
 have ro:=acS hro
 have r2:=acS hR2
 obtain⟨n1,n2⟩:=acT hnw
 obtain⟨src,hN,hput⟩:=ak0 hm (fun n hn=>(n2 n hn).1)
 have hlt:=acR hk
 have hH:∀ j∈keysOf objs,∃ o,hget objs j=some o∧hget H j=some o:=fun j hj=>by
  obtain⟨o,ho⟩:=Ic.2 hj;exact⟨o,ho,ro.sub j o ho⟩
 have hden:∀ j∈keysOf objs,SH.den s objs j=SH.den s H j:=fun j hj=>by
  obtain⟨o,h1,h2⟩:=hH j hj;unfold SH.den;rw[h1,h2]
 have hnew:∀ n∈nw,∃ o,hget st.H n=some o∧hget R2 n=some o:=fun n hn=>by
  obtain⟨o,ho⟩:=Ic.2 (n2 n hn).2;exact⟨o,r2.sub n o ho,ho⟩
 let sr:Nat→Option Nat:=fun j=>if j∈keysOf objs then some j else src j
 have srk:∀ j∈keysOf objs,sr j=some j:=fun j hj=>if_pos hj
 have srn:∀ r,(r∈nw∨r∈keysOf objs)→sr (zf m r)=some r:=by
  rintro r (hr|hr)
  ·have h1:=hN.new r hr
   have:zf m r∉keysOf objs:=fun hm'=>by
    have:=hN.srcOld _ (hlt _ hm');rw[this] at h1;cases h1
   show(if _ then _ else _)=_
   rw[if_neg this,h1]
  ·rw[hN.old r (hlt r hr)];exact srk r hr
 have clean:∀ j∈keysOf objs,xZ j st.dt=false→∃ o,hget st.H j=some o∧hget objs j=some o:=fun j hj hd=>by
  obtain⟨o,h1,_⟩:=hH j hj;exact⟨o,by rw[hD j hd];exact h1,h1⟩
 have cont:∀ j o,hget st.H j=some o→(j∈nw∨j∈keysOf objs)→∀ r∈SV.refss o.c,r∈nw∨r∈keysOf objs:=by
  intro j o ho hj r hr
  have AJ:∀ b,b∈keysOf R2→hget st.H b=some o→r∈nw∨r∈keysOf objs:=fun b hbk hb=>by
   obtain⟨o',ho'⟩:=Ic.2 hbk
   have:=r2.sub b o' ho';rw[hb] at this;cases this
   exact n1 r (r2.cl b o ho' r hr)
  rcases hj with hj|hj
  ·exact AJ j (n2 j hj).2 ho
  ·cases hd:xZ j st.dt with
   | true=>exact AJ j (r2.all j (List.mem_append_right _ (Ie.2 ⟨hj,hd⟩))) ho
   | false =>
    obtain⟨o',h1,h2⟩:=clean j hj hd
    rw[ho] at h1;cases h1
    exact .inr (ro.cl j o h2 r hr)
 have have':∀ j,(j∈nw∨j∈keysOf objs)→∃ o,hget st.H j=some o:=by
  rintro j (hj|hj)
  ·obtain⟨o,h1,_⟩:=hnew j hj;exact⟨o,h1⟩
  ·cases hd:xZ j st.dt with
   | true =>
    obtain⟨o,ho⟩:=Ic.2 (r2.all j (List.mem_append_right _ (Ie.2 ⟨hj,hd⟩)))
    exact⟨o,r2.sub j o ho⟩
   | false=>obtain⟨o,h1,_⟩:=clean j hj hd;exact⟨o,h1⟩
 have own':∀ j o,(j∈nw∨j∈keysOf objs)→hget st.H j=some o→∃ t,o.t=some t:=by
  intro j o hj ho
  rcases hj with hj|hj
  ·obtain⟨o',h1,h2⟩:=hnew j hj
   rw[ho] at h1;cases h1
   exact KL hw2 h2
  ·cases hd:xZ j st.dt with
   | true =>
    obtain⟨o',ho'⟩:=Ic.2 (r2.all j (List.mem_append_right _ (Ie.2 ⟨hj,hd⟩)))
    have:=r2.sub j o' ho';rw[ho] at this;cases this
    exact KL hw2 ho'
   | false =>
    obtain⟨o',h1,h2⟩:=clean j hj hd
    rw[ho] at h1;cases h1
    exact KL hw0 h2
 refine⟨?_,?_,hfc,?_⟩
 ·intro b hb
  obtain⟨o,_,h2⟩:=hH b hb
  unfold SH.den;rw[h2];simp
 ·intro x hx
  rw[wY,List.map_append,← wY,← wY] at hx
  rcases List.mem_append.1 hx with hx|hx
  ·exact .inr (.inr (Ie.1 (XP hx)).1)
  ·obtain⟨n,hn,e⟩:=XQ hx
   rw[e]
   exact(hN.srcNew _ n (hN.new n hn)).2.2.imp id .inl
 ·intro w0 B0
  rw[SV.den_ren]
  refine akQ E (H1:=SH.den s objs) (Hc:=SH.den s st.H) (keysOf objs) k sr (zf m) hf hb hn (by rw[DU];exact hl) ?_ ?_ ?_ ?_ ?_ srk ?_ ?_ ?_ ?_
  ·intro j o hj
   unfold SH.den at hj
   cases hg:hget objs j with
   | none=>rw[hg] at hj;cases hj
   | some o'=>exact Ic.1 ⟨o',hg⟩
  ·intro j hj
   obtain⟨o,h1,h2⟩:=hH j hj
   obtain⟨t0,ht0⟩:=KL hw0 h1
   exact⟨hden j hj,⟨_,_,SH.den_get h2 ht0⟩,hlt j hj⟩
  ·intro j c t hj r hr
   unfold SH.den at hj
   cases hg:hget objs j with
   | none=>rw[hg] at hj;cases hj
   | some o' =>
    rw[hg] at hj
    obtain⟨t0,ht0⟩:=KL hw0 hg
    rw[Option.map_some,SO.den_own s ht0] at hj
    simp only[Option.some.injEq,AO.own.injEq] at hj
    rw[← hj.1] at hr
    exact ro.cl j o' hg r (SV.dens_refs s _ hr)
  ·intro x hx j hj
   rw[SV.dens_map] at hx
   obtain⟨y,hy,rfl⟩:=List.mem_map.1 hx
   refine ro.all j ?_
   have:j∈AV.refss (SV.dens s args):=AV.mem_refss.2 ⟨_,by rw[SV.dens_map];exact List.mem_map_of_mem hy,hj⟩
   exact SV.dens_refs s args this
  ·intro j n hs
   have key:(n∈nw∨n∈keysOf objs)∧zf m n=j:=by
    by_cases hj:j∈keysOf objs
    ·have:sr j=some j:=srk j hj
     rw[this] at hs;cases hs
     exact⟨.inr hj,hN.old j (hlt j hj)⟩
    ·have:sr j=src j:=if_neg hj
     rw[this] at hs
     obtain⟨h1,h2,_⟩:=hN.srcNew j n hs
     exact⟨.inl h1,h2⟩
   obtain⟨o,ho⟩:=have' n key.1
   obtain⟨t0,ht0⟩:=own' n o key.1 ho
   refine⟨key.2,_,_,SH.den_get ho ht0,fun r hr=>srn r (cont n o ho key.1 r (SV.dens_refs s _ hr))⟩
  ·intro j n hs
   by_cases hj:j∈keysOf objs
   ·exact .inl hj
   ·have:sr j=src j:=if_neg hj
    rw[this] at hs
    exact .inr (hN.srcNew j n hs).2.2
  ·intro j hj
   refine srn j (n1 j (r2.all j (List.mem_append_left _ ?_)))
   have h1:=SV.den_refs s _ hj
   cases rs with
   | nil=>simp[resS,SV.refs,SV.refss] at h1
   | cons x l=>cases l with
    | nil=>simpa [resS,SV.refss] using h1
    | cons y l=>exact h1
  ·intro H' hag j
   rw[wY,List.map_append,← wY,← wY,acW,hput s st.H (fun n hn=>(hnew n hn).imp fun o ho=>ho.1),XN]
   by_cases hj:j∈keysOf objs
   ·have h0:src j=none:=hN.srcOld j (hlt j hj)
    rw[h0,srk j hj]
    simp only
    cases hd:xZ j st.dt with
    | true =>
     have:xZ j (CP st.dt objs)=true:=QG.2 (Ie.2 ⟨hj,hd⟩)
     rw[this]
     obtain⟨o,ho⟩:=have' j (.inr hj)
     simp only[ho,SH.den,Option.map_some,acV]
    | false =>
     have:xZ j (CP st.dt objs)=false:=by
      cases hmn:xZ j (CP st.dt objs) with
      | false=>rfl
      | true=>have:=(Ie.1 (QG.1 hmn)).2;rw[hd] at this;cases this
     rw[this]
     obtain⟨o,h1,h2⟩:=clean j hj hd
     obtain⟨o',h3,h4⟩:=hH j hj
     rw[h2] at h3;cases h3
     simp only[]
     rw[hag j hj]
     obtain⟨t0,ht0⟩:=KL hw0 h2
     simp only[SH.den,h1,h4,Option.map_some,SO.den_own s ht0,AO.ren]
     rw[AV.rens_id _ (fun r hr=>hN.old r (hlt r (ro.cl j o h2 r (SV.dens_refs s _ hr))))]
   ·have h0:sr j=src j:=if_neg hj
    rw[h0]
    cases hs:src j with
    | some n =>
     simp only
     obtain⟨o,ho⟩:=have' n (.inl (hN.srcNew j n hs).1)
     simp only[ho,SH.den,Option.map_some,acV]
    | none =>
     simp only
     have:xZ j (CP st.dt objs)=false:=by
      cases hmn:xZ j (CP st.dt objs) with
      | false=>rfl
      | true=>exact absurd (Ie.1 (QG.1 hmn)).1 hj
     rw[this]
  ·intro w1 B
   have:=hA w1 B
   rw[QH] at this
   refine this.mono ?_
   rintro x N T Hx ⟨rfl,rfl,rfl,rfl⟩
   have hres:=KN (G:=C.G) s hrs
   rcases hex with rfl|rfl
   ·exact⟨_,hres,M8 s rs,rfl⟩
   ·exact⟨_,hres,M8 s rs,rfl⟩
open Go.RowKit
def XR (w:World) (k:VK) (n:Int) (v:Value):Prop:=match k with
 | .nat=>Reads w v (Fe n.toNat) (H6 n.toNat)
 | k=>v=xW k n
def zn (w:World):List VK→List Int→List Value→Prop
 | [],[],[]=>True
 | k::ks,n::ns,v::vs=>XR w k n v∧zn w ks ns vs
 | _,_,_=>False
def QI (h:Sh) (vs:List Value):Value:=match h with
 | .sc _=>vs.headD undef
 | .agg l=>.agg (vs.take l.length).toArray
def KO:List Sh→List Value→List Value
 | [],_=>[]
 | h::hs,vs=>QI h vs::KO hs (vs.drop h.kinds.length)
def Ty (P:Program) (G:wD) (g:FuncId) (ct:Ct) (l r:List Int):Prop:=∀ w fvs,Gl G w→zn w (vD ct.a) l fvs→AC P g (KO ct.a fvs).toArray w fun e w' =>
 ∃ fus,e = .returned (xG (KO ct.r fus))∧zn w' (vD ct.r) r fus∧(∀ u∈fus,∀ b,Aa u=some b→w.heap.size≤b∨∃ v∈fvs,Aa v=some b)∧vI w w'
theorem zn.len {w:World} : ∀ {ks:List VK} {ns:List Int} {vs:List Value},zn w ks ns vs→ns.length=ks.length∧vs.length=ks.length
 | [],[],[],_=>⟨rfl,rfl⟩
 | k::ks,n::ns,v::vs,h=>by obtain⟨h1,h2⟩:=zn.len h.2;exact⟨by simp[h1],by simp[h2]⟩
 | [],_::_,_,h=>h.elim
 | [],[],_::_,h=>h.elim
 | _::_,[],_,h=>h.elim
 | _::_,_::_,[],h=>h.elim
theorem acZ {w:World} {v:Value} {n:Nat} {c:List Value} (h:Reads w v n c):Eo v=v:=by
 rcases h with⟨h1,_⟩|⟨b',o,cap,h1,_⟩<;>rw[h1]<;>rfl
theorem ak1 {k:VK} {n:Int} (h:nN k=0):Aa (xW k n)=none:=by
 cases k<;>first|rfl|cases h
theorem zn.append {w:World} : ∀ {ks js:List VK} {ns ms:List Int} {vs us:List Value},zn w ks ns vs→zn w js ms us→zn w (ks++js) (ns++ms) (vs++us)
 | [],js,[],ms,[],us,_,h=>h
 | k::ks,js,n::ns,ms,v::vs,us,h,h'=>⟨h.1,zn.append h.2 h'⟩
 | [],_,_::_,_,_,_,h,_=>h.elim
 | [],_,[],_,_::_,_,h,_=>h.elim
 | _::_,_,[],_,_,_,h,_=>h.elim
 | _::_,_,_::_,_,[],_,h,_=>h.elim
structure Ig (w0:World) (B0:wX) (e:Env) (H:vE) (v:Value):Prop where
 ap:∀ b,Aa v=some b→∀ j c t,H j=some (.own c t)→b≠e.blk j
 new:∀ b,Aa v=some b→w0.heap.size≤b∨∃ j∈B0.dom,Aa (B0.env.hnd j)=some b
section
variable {G:wD} {w0:World} {B0:wX} {e:Env} {H':vE} {w:World} {s:vS} {H:SH}
theorem ac0 {v:Value} (h:Aa v=none):Ig w0 B0 e H' v:=⟨fun b hb=>(by rw[h] at hb;cases hb),fun b hb=>(by rw[h] at hb;cases hb)⟩
theorem ac1 (R:wH G w0 B0 e H' w) {k:VK} {x:SV} {a:X} (h:M5 H k x=some a) (hag:∀ b∈x.refs,H' b=SH.den s H b) :
  ∃ v,(x.den s).val e=v∧XR w k (a.den s) v∧Ig w0 B0 e H' v:=by
 have plain:∀ k,nN k=0→Fj k x=some a→∃ v,(x.den s).val e=v∧v=xW k (a.den s)∧Ig w0 B0 e H' v:=fun k hk h=>by
  refine⟨_,rfl,?_,?_⟩
  ·rw[Tv s h];rfl
  ·rw[Tv s h];exact ac0 (ak1 hk)
 cases k with
 | int k=>exact plain _ rfl h
 | bool=>exact plain _ rfl h
 | bit=>exact plain _ rfl h
 | nat =>
  simp only[M5] at h
  split at h
  ·rename_i j
   split at h
   ·rename_i o ho
    split at h
    ·rename_i ht
     obtain⟨kd,x,hc,rfl⟩:∃ kd x,o.c = [.int kd x]∧a=x:=by
      split at h
      ·rename_i kd x hc;cases h;exact⟨kd,_,hc,rfl⟩
      ·cases h
     have hj:H' j=some (.rd (Fe (X.den s a).toNat) (H6 (X.den s a).toNat)):=by
      have:=SH.den_nat (s:=s) ho ht (by rw[hc];rfl) (by rw[hc];rfl)
      rw[hag j (by simp[SV.refs]),this,hc];rfl
     have hr:=R.rd j _ _ hj
     refine⟨e.hnd j,?_,hr,?_,?_⟩
     ·simp only[SV.den,AV.val];exact acZ hr
     ·intro b hb i c t hi he
      exact R.apart j _ _ i c t hj hi (by rw[hb,he])
     ·intro b hb;exact R.new j _ _ hj b hb
    ·cases h
   ·cases h
  ·cases h
   refine⟨.slice none 0 0,rfl,?_,ac0 rfl⟩
   exact .inl ⟨rfl,rfl,rfl⟩
  ·cases h
theorem XT (R:wH G w0 B0 e H' w):∀ {ks:List VK} {xs:List SV} {l:List X},KH H ks xs=some l→(∀ b∈SV.refss xs,H' b=SH.den s H b) →
  ∃ fvs,AV.vals e (SV.dens s xs)=fvs∧zn w ks (l.map (X.den s)) fvs∧∀ v∈fvs,Ig w0 B0 e H' v
 | [],[],l,h,_=>by cases h;exact⟨[],rfl,trivial,fun v hv=>by cases hv⟩
 | k::ks,x::xs,l,h,hag=>by
  simp only[KH] at h
  split at h
  ·rename_i a l' ha hl
   cases h
   obtain⟨fvs,h1,h2,h3⟩:=XT R hl (fun b hb=>hag b (by rw[SV.refss];exact List.mem_append_right _ hb))
   obtain⟨v,h4,h5,h6⟩:=ac1 R ha (fun b hb=>hag b (by rw[SV.refss];exact List.mem_append_left _ hb))
   refine⟨v::fvs,by rw[SV.dens,AV.vals,h1,h4],⟨h5,h2⟩,fun u hu=>?_⟩
   rcases List.mem_cons.1 hu with rfl|hu
   ·exact h6
   ·exact h3 u hu
  ·cases h
 | [],_::_,l,h,_=>by cases h
 | _::_,[],l,h,_=>by cases h
theorem ak2 (R:wH G w0 B0 e H' w) {sh:Sh} {x:SV} {l:List X} (h:QA H sh x=some l) (hag:∀ b∈x.refs,H' b=SH.den s H b) :
  ∃ fvs,(∀ us,(x.den s).val e=QI sh (fvs++us))∧zn w sh.kinds (l.map (X.den s)) fvs∧∀ v∈fvs,Ig w0 B0 e H' v:=by
 unfold QA at h
 split at h
 ·split at h
  ·rename_i a ha
   cases h
   obtain⟨v,h1,h2,h3⟩:=ac1 R ha hag
   exact⟨[v],fun us=>h1,⟨h2,trivial⟩,fun u hu=>by simp at hu;subst hu;exact h3⟩
  ·cases h
 ·rename_i ks xs
  obtain⟨fvs,h1,h2,h3⟩:=XT R h (fun b hb=>hag b (by rw[SV.refs];exact hb))
  refine⟨fvs,fun us=>?_,h2,h3⟩
  rw[SV.den,PY,h1]
  simp only[QI]
  rw[List.take_append_of_le_length (by rw[(zn.len h2).2];exact Nat.le_refl _),List.take_of_length_le (by rw[(zn.len h2).2];exact Nat.le_refl _)]
 ·rename_i ks cs
  have hrf:∀ l:List Value,SV.refss (l.map Bp) = []:=fun l=>by
   induction l with
   | nil=>rfl
   | cons x l ih=>rw[List.map_cons,SV.refss,ih];cases x<;>rfl
  obtain⟨fvs,h1,h2,h3⟩:=XT R h (fun b hb=>by rw[hrf] at hb;cases hb)
  refine⟨fvs,fun us=>?_,h2,h3⟩
  rw[EA,Ab] at h1
  simp only[SV.den,AV.val,QI]
  rw[List.take_append_of_le_length (by rw[(zn.len h2).2];exact Nat.le_refl _),List.take_of_length_le (by rw[(zn.len h2).2];exact Nat.le_refl _),← h1]
 ·cases h
theorem ac2 (R:wH G w0 B0 e H' w):∀ {hs:List Sh} {xs:List SV} {l:List X},M6 H hs xs=some l→(∀ b∈SV.refss xs,H' b=SH.den s H b) →
  ∃ fvs,AV.vals e (SV.dens s xs)=KO hs fvs∧zn w (vD hs) (l.map (X.den s)) fvs∧∀ v∈fvs,Ig w0 B0 e H' v
 | [],[],l,h,_=>by cases h;exact⟨[],rfl,trivial,fun v hv=>by cases hv⟩
 | sh::hs,x::xs,l,h,hag=>by
  simp only[M6] at h
  split at h
  ·rename_i a l' ha hl
   cases h
   obtain⟨fvs,h1,h2,h3⟩:=ac2 R hl (fun b hb=>hag b (by rw[SV.refss];exact List.mem_append_right _ hb))
   obtain⟨gvs,h4,h5,h6⟩:=ak2 R ha (fun b hb=>hag b (by rw[SV.refss];exact List.mem_append_left _ hb))
   refine⟨gvs++fvs,?_,?_,fun u hu=>?_⟩
   ·rw[SV.dens,AV.vals,h1,h4 fvs,KO,List.drop_append_of_le_length (by rw[(zn.len h5).2];exact Nat.le_refl _),List.drop_of_length_le (by rw[(zn.len h5).2];exact Nat.le_refl _)];rfl
   ·have hk:vD (sh::hs)=sh.kinds++vD hs:=by simp[vD]
    rw[hk,List.map_append]
    exact zn.append h5 h2
   ·rcases List.mem_append.1 hu with hu|hu
    ·exact h6 u hu
    ·exact h3 u hu
  ·cases h
 | [],_::_,l,h,_=>by cases h
 | _::_,[],l,h,_=>by cases h
theorem ak3 {k:VK} {x:SV} {a:X} (h:Fj k x=some a):x.refs = []:=by
 unfold Fj at h
 split at h<;>first|rfl|cases h
theorem ak4 {b:Nat} {o:SO} (h:hget H b=some o):SH.den s H b≠none:=by unfold SH.den;rw[h];simp
theorem ac3 {k:VK} {x:SV} {a:X} (h:M5 H k x=some a):∀ b∈x.refs,SH.den s H b≠none:=by
 have plain:∀ k,Fj k x=some a→∀ b∈x.refs,SH.den s H b≠none:=fun k h b hb=>by rw[ak3 h] at hb;cases hb
 cases k with
 | int k=>exact plain _ h
 | bool=>exact plain _ h
 | bit=>exact plain _ h
 | nat =>
  simp only[M5] at h
  split at h
  ·rename_i j
   split at h
   ·rename_i o ho
    intro b hb
    simp[SV.refs] at hb;subst hb
    exact ak4 ho
   ·cases h
  ·intro b hb;simp[SV.refs] at hb
  ·cases h
theorem ac4:∀ {ks:List VK} {xs:List SV} {l:List X},KH H ks xs=some l→∀ b∈SV.refss xs,SH.den s H b≠none
 | [],[],l,h,b,hb=>by simp[SV.refss] at hb
 | k::ks,x::xs,l,h,b,hb=>by
  simp only[KH] at h
  split at h
  ·rename_i a l' ha hl
   rw[SV.refss] at hb
   rcases List.mem_append.1 hb with hb|hb
   ·exact ac3 ha b hb
   ·exact ac4 hl b hb
  ·cases h
 | [],_::_,l,h,_,_=>by cases h
 | _::_,[],l,h,_,_=>by cases h
theorem ak5 {sh:Sh} {x:SV} {l:List X} (h:QA H sh x=some l):∀ b∈x.refs,SH.den s H b≠none:=by
 unfold QA at h
 split at h
 ·split at h
  ·rename_i a ha;exact ac3 ha
  ·cases h
 ·exact fun b hb=>ac4 h b (by simpa [SV.refs] using hb)
 ·intro b hb;simp[SV.refs] at hb
 ·cases h
theorem ac5:∀ {hs:List Sh} {xs:List SV} {l:List X},M6 H hs xs=some l→∀ b∈SV.refss xs,SH.den s H b≠none
 | [],[],l,h,b,hb=>by simp[SV.refss] at hb
 | sh::hs,x::xs,l,h,b,hb=>by
  simp only[M6] at h
  split at h
  ·rename_i a l' ha hl
   rw[SV.refss] at hb
   rcases List.mem_append.1 hb with hb|hb
   ·exact ak5 ha b hb
   ·exact ac5 hl b hb
  ·cases h
 | [],_::_,l,h,_,_=>by cases h
 | _::_,[],l,h,_,_=>by cases h
theorem ac6 (k:VK):(k = .nat∧nN k=1)∨(nN k=0∧(∀ x h,QB k x h=Fp k x)∧∀ (w:World) n v,XR w k n v↔v=xW k n):=by
 cases k<;>first|exact .inl ⟨rfl,rfl⟩|exact .inr ⟨rfl,fun _ _=>rfl,fun _ _ _=>Iff.rfl⟩
theorem ac7 {x:X} {ks:List VK} {xs:List X} {h:Nat} : Ch (.nat::ks) (x::xs) h=(h,⟨[.int .u64 x],none⟩)::Ch ks xs (h+1):=by simp only[Ch,yw]
theorem ac8 {k:VK} (hk:nN k=0) {x:X} {ks:List VK} {xs:List X} {h:Nat} : Ch (k::ks) (x::xs) h=Ch ks xs h:=by
 cases k<;>first|rfl|cases hk
theorem XU:∀ {ks:List VK} {xs:List X} {h:Nat} {y:Nat×SO},y∈Ch ks xs h→h≤y.1∧y.1<h+Dp ks
 | [],xs,h,y,hy=>by simp[Ch] at hy
 | k::ks,[],h,y,hy=>by simp[Ch] at hy
 | k::ks,x::xs,h,y,hy=>by
  rcases ac6 k with⟨rfl,h1⟩|⟨h1,_⟩
  ·rw[ac7] at hy
   rw[Dp,h1]
   rcases List.mem_cons.1 hy with rfl|hy
   ·exact⟨Nat.le_refl _,by omega⟩
   ·have:=XU hy;omega
  ·rw[ac8 h1] at hy
   have:=XU hy
   rw[Dp];omega
theorem Env.on.trans' {H1 H2:vE} {e e1 e2:Env} (h1:Env.on H1 e e1) (h2:Env.on H2 e1 e2) (hs:∀ k,H1 k≠none→H2 k≠none):Env.on H1 e e2:=fun k hk =>
 ⟨(h2 k (hs k hk)).1.trans (h1 k hk).1,(h2 k (hs k hk)).2.trans (h1 k hk).2⟩
theorem XV:∀ {ks:List VK} {xs:List X} {ns:List Int} {fus:List Value} {h:Nat} {e:Env} {H':vE},wH G w0 B0 e H' w→xs.map (X.den s)=zK ks ns→zn w ks ns fus→(∀ u∈fus,Ig w0 B0 e H' u) →
  (∀ j,h≤j→j<h+Dp ks→H' j=none)→∃ e',wH G w0 B0 e' (H'.puts (wY s (Ch ks xs h))) w∧Env.on H' e e'∧AV.vals e' (SV.dens s (zG ks xs h))=fus∧∀ c∈SV.refss (zG ks xs h),(H'.puts (wY s (Ch ks xs h))) c≠none
 | [],xs,ns,fus,h,e,H',R,hx,hf,hg,hn=>by
  obtain⟨l1,l2⟩:=zn.len hf
  have:fus = []:=List.eq_nil_of_length_eq_zero l2
  subst this
  have hu:zG [] xs h = []:=by cases xs<;>rfl
  have he:Ch [] xs h = []:=by cases xs<;>rfl
  rw[hu,he]
  exact⟨e,R,Env.on.refl _ _,rfl,fun c hc=>by cases hc⟩
 | k::ks,[],ns,fus,h,e,H',R,hx,hf,hg,hn=>by
  obtain⟨l1,l2⟩:=zn.len hf
  cases ns with
  | nil=>simp at l1
  | cons n ns=>simp[zK] at hx
 | k::ks,x::xs,[],fus,h,e,H',R,hx,hf,hg,hn=>by simp[zK] at hx
 | k::ks,x::xs,n::ns,[],h,e,H',R,hx,hf,hg,hn=>hf.elim
 | k::ks,x::xs,n::ns,u::fus,h,e,H',R,hx,hf,hg,hn=>by
  simp only[List.map_cons,zK,List.cons.injEq] at hx
  rcases ac6 k with⟨rfl,h1⟩|⟨h1,h2,h3⟩
  ·rw[Dp,h1] at hn
   have hk:H' h=none:=hn h (Nat.le_refl _) (by omega)
   have gu:=hg u List.mem_cons_self
   have hr:Reads w u (Fe n.toNat) (H6 n.toNat):=hf.1
   have hxn:((x.den s).toNat:Nat)=n.toNat:=by rw[hx.1];rfl
   have R1:=R.handle hk hr (fun j c t hj he=>gu.ap _ he j c t hj rfl) gu.new
   have hon1:=Env.setHnd_on hk e u
   have hsz:∀ {v:Value},Ig w0 B0 e H' v→Ig w0 B0 (e.setHnd h u) (H'.put h (.rd (Fe n.toNat) (H6 n.toNat))) v:=fun {v} g=>⟨fun b hb j c t hj=>by
    rcases vE.put_eq hj with⟨_,he⟩|⟨_,hj⟩
    ·cases he
    ·exact g.ap b hb j c t hj,g.new⟩
   obtain⟨e',R',o',v',c'⟩:=XV (h:=h+1) R1 hx.2 hf.2 (fun v hv=>hsz (hg v (List.mem_cons_of_mem _ hv))) (fun j h4 h5=>by rw[vE.put_ne _ _ _ (by omega)];exact hn j (by omega) (by omega))
   have hd:∀ j,H' j≠none→(H'.put h (.rd (Fe n.toNat) (H6 n.toNat))) j≠none:=fun j hj=>vE.put_dom _ _ _ hj
   have hef:wY s (Ch (.nat::ks) (x::xs) h)=(h,.rd (Fe n.toNat) (H6 n.toNat))::wY s (Ch ks xs (h+1)):=by
    rw[ac7]
    simp only[wY,List.map_cons,SO.den,CO,WS,Dn,H7,hxn]
   rw[hef]
   refine⟨e',R',hon1.trans' o' hd,?_,?_⟩
   ·rw[zG,SV.dens,AV.vals,h1,v']
    congr 1
    show Eo (e'.hnd h)=u
    rw[(o' h (by rw[vE.put_same];simp)).2]
    show Eo (if h=h then u else e.hnd h)=u
    rw[if_pos rfl];exact acZ hr
   ·intro c hc
    rw[zG,SV.refss,h1] at hc
    rcases List.mem_append.1 hc with hc|hc
    ·simp[QB,SV.refs] at hc
     subst hc
     rw[vE.puts]
     exact vE.puts_dom (by rw[vE.put_same];simp)
    ·exact c' c hc
  ·rw[Dp,h1,Nat.zero_add] at hn
   obtain⟨e',R',o',v',c'⟩:=XV (h:=h) R hx.2 hf.2 (fun v hv=>hg v (List.mem_cons_of_mem _ hv)) hn
   rw[ac8 h1]
   refine⟨e',R',o',?_,?_⟩
   ·rw[zG,SV.dens,AV.vals,h1,Nat.add_zero,v',h2,Tw hx.1]
    congr 1
    exact((h3 w n u).1 hf.1).symm
   ·intro c hc
    rw[zG,SV.refss,h1,Nat.add_zero,h2] at hc
    rcases List.mem_append.1 hc with hc|hc
    ·cases k<;>simp[Fp,SV.refs] at hc
    ·exact c' c hc
theorem XW:∀ (ks js:List VK) (xs:List X) (h:Nat),ks.length≤xs.length→zG (ks++js) xs h=zG ks xs h++zG js (xs.drop ks.length) (h+Dp ks)
 | [],js,xs,h,_=>by cases xs<;>rfl
 | k::ks,js,[],h,hl=>by simp at hl
 | k::ks,js,x::xs,h,hl=>by
  rw[List.cons_append,zG,zG,XW ks js xs _ (by simpa using hl),Dp,Nat.add_assoc];rfl
theorem ac9:∀ (ks:List VK) (xs:List X) (h:Nat),xs.length=ks.length→(zG ks xs h).length=ks.length
 | [],xs,h,_=>by cases xs<;>rfl
 | k::ks,[],h,hl=>by simp at hl
 | k::ks,x::xs,h,hl=>by rw[zG,List.length_cons,ac9 ks xs _ (by simpa using hl),List.length_cons]
theorem ada:∀ (ks:List VK) (xs:List X) (h:Nat),zG ks (xs.take ks.length) h=zG ks xs h
 | [],xs,h=>by cases xs<;>rfl
 | k::ks,[],h=>rfl
 | k::ks,x::xs,h=>by rw[List.length_cons,List.take_succ_cons,zG,ada ks xs,zG]
theorem adb (e:Env):∀ (hs:List Sh) (xs:List X) (h:Nat),xs.length=(vD hs).length→AV.vals e (SV.dens s (KI hs xs h))=KO hs (AV.vals e (SV.dens s (zG (vD hs) xs h)))
 | [],xs,h,_=>rfl
 | sh::hs,xs,h,hl=>by
  have hk:vD (sh::hs)=sh.kinds++vD hs:=by simp[vD]
  rw[hk,List.length_append] at hl
  have hle:sh.kinds.length≤xs.length:=by omega
  have h1:(zG sh.kinds xs h).length=sh.kinds.length:=by
   rw[← ada];exact ac9 _ _ _ (by rw[List.length_take];omega)
  have h2:(AV.vals e (SV.dens s (zG sh.kinds xs h))).length=sh.kinds.length:=by rw[DN,DU,h1]
  rw[KI,SV.dens,AV.vals,adb e hs _ _ (by rw[List.length_drop];omega),hk,XW _ _ _ _ hle,Jp,P7,KO]
  congr 1
  ·cases sh with
   | sc k =>
    match xs,hle with
    | x::xs,_=>rfl
   | agg l =>
    simp only[XC,SV.den,PY,QI]
    rw[List.take_append_of_le_length (by rw[h2];exact Nat.le_refl _),List.take_of_length_le (by rw[h2];exact Nat.le_refl _)];rfl
  ·have d:∀ (a b:List Value) (n:Nat),a.length=n→(a++b).drop n=b:=fun a b n hn=>by subst hn;simp
   rw[d _ _ _ h2]
theorem adc {c:Nat} : ∀ {hs:List Sh} {xs:List X} {h:Nat},xs.length=(vD hs).length→c∈SV.refss (KI hs xs h)→c∈SV.refss (zG (vD hs) xs h)
 | [],xs,h,_,hc=>by simp[KI,SV.refss] at hc
 | sh::hs,xs,h,hl,hc=>by
  have hk:vD (sh::hs)=sh.kinds++vD hs:=by simp[vD]
  rw[hk,List.length_append] at hl
  have hle:sh.kinds.length≤xs.length:=by omega
  have happ:∀ (a b:List SV),SV.refss (a++b)=SV.refss a++SV.refss b:=fun a b=>by
   induction a with
   | nil=>rfl
   | cons x a ih=>rw[List.cons_append,SV.refss,ih,SV.refss,List.append_assoc]
  rw[hk,XW _ _ _ _ hle,happ]
  rw[KI,SV.refss] at hc
  rcases List.mem_append.1 hc with hc|hc
  ·refine List.mem_append_left _ ?_
   cases sh with
   | sc k =>
    match xs,hle with
    | x::xs,_ =>
     have e:zG (Sh.sc k).kinds (x::xs) h = [QB k x h]:=by cases xs<;>rfl
     rw[e];simpa [SV.refss,XC] using hc
   | agg l=>exact hc
  ·exact List.mem_append_right _ (adc (by rw[List.length_drop];omega) hc)
theorem ak6 (e:Env) (l:List SV):((resS l).den s).val e=xG (AV.vals e (SV.dens s l)):=by
 match l with
 | []=>simp only[resS,SV.den,SV.dens,VF];rfl
 | [x]=>rfl
 | x::y::l=>simp only[resS,SV.den,VF,SV.dens,AV.vals,xG]
theorem ak7 {l:List SV} {c:Nat} (h:c∈(resS l).refs):c∈SV.refss l:=by
 match l,h with
 | [],h=>exact h
 | [x],h=>simpa [resS,SV.refss] using h
 | x::y::l,h=>exact h
end
def Tz (P:Program) (G:wD) (g:FuncId) (c:Ae) (l r:List Int):Prop:=∀ w b,Gl G w→(∀ x∈G,x.1≠b)→w.heap[b]? = some (.cells (wQ c.ks (l.drop (vD c.a).length)).toArray c.t (0,0)) →
 AC P g (wJ c.a l ++ [Value.slice (some ⟨b,0,none⟩) c.n c.n]).toArray w fun e w'=>e = .returned (xG (wJ c.r r))∧vI w w'
theorem ade {s:vS} : ∀ {l:List SV} {r:acJ},QC l=some r→l=r.i ++ [.sl r.b r.o r.n r.m]
 | [],r,h=>by cases h
 | [x],r,h=>by
  simp only[QC] at h
  split at h
  ·cases h;rfl
  ·cases h
 | x::y::l,r,h=>by
  simp only[QC] at h
  split at h
  ·rename_i r' hr
   cases h
   have:=ade (s:=s) hr
   rw[this];rfl
  ·cases h
theorem adf:∀ {L:List Ae} {n m:Nat} {t:TypeId} {c:Ae},Tu L n m t=some c→c∈L∧c.n=n∧c.n=m∧c.t=t
 | [],n,m,t,c,h=>by cases h
 | x::L,n,m,t,c,h=>by
  simp only[Tu] at h
  split at h
  ·rename_i h1 h2 h3
   cases h
   exact⟨List.mem_cons_self,wR.1 h1,wR.1 h2,wR.1 h3⟩
  ·obtain⟨h1,h2⟩:=adf h
   exact⟨List.mem_cons_of_mem _ h1,h2⟩
theorem XX:∀ (hs:List Sh) (p q:List Int),p.length=(vD hs).length→wJ hs (p++q)=wJ hs p
 | [],p,q,_=>rfl
 | h::hs,p,q,hl=>by
  have hk:vD (h::hs)=h.kinds++vD hs:=by simp[vD]
  rw[hk,List.length_append] at hl
  have h1:(p++q).take h.kinds.length=p.take h.kinds.length:=by rw[List.take_append_of_le_length (by omega)]
  have e1:yx h (p++q)=yx h p:=by
   have a1:=XF h (p.take h.kinds.length) (p.drop h.kinds.length++q) (by rw[List.length_take];omega)
   have a2:=XF h (p.take h.kinds.length) (p.drop h.kinds.length) (by rw[List.length_take];omega)
   rw[← List.append_assoc,List.take_append_drop] at a1
   rw[List.take_append_drop] at a2
   rw[a1,a2]
  rw[wJ,wJ,e1,List.drop_append_of_le_length (by omega),XX hs _ q (by rw[List.length_drop];omega)]
theorem ak8 {C:xA} {s:vS} {g:FuncId} {L:List Ae}
  (hct:∀ c∈L,∀ l:List Int,l.length=(vD c.a++c.ks).length→(C.Φ c.id l).length=(vD c.r).length→Tz C.P C.G g c l (C.Φ c.id l))
  {args:List SV} {H:SH} {k nv:Nat} {fc:Facts} {K:Unit→vo CR} {r:CR} (h:(XE C L args H nv fc K).path C.Φ s=some r) (hfc:xC s fc) (hK:(K ()).path C.Φ s=some r→Dq C s g args H k r):Dq C s g args H k r:=by
 unfold XE at h
 split at h
 ·exact hK h
 rename_i q hq
 split at h
 ·exact hK h
 rename_i o ho
 split at h
 ·exact hK h
 rename_i t ht
 split at h
 ·exact hK h
 rename_i c hc
 split at h
 ·rename_i xs ys h0 hxs hys
  obtain⟨m1,m2,m3,m4⟩:=adf hc
  have h0:=wR.1 h0
  obtain⟨a1,a2⟩:=Jt s hxs
  obtain⟨b1,b2⟩:=QE s hys
  have hargs:=ade (s:=s) hq
  have hlen:((xs++ys).map (X.den s)).length=(vD c.a++c.ks).length:=by simp[a2,b2]
  have hS:=hct c m1 _ hlen
  have fin:(C.Φ c.id ((xs++ys).map (X.den s))).length=(vD c.r).length→∀ l:List SV,SV.dens s l=(wJ c.r (C.Φ c.id ((xs++ys).map (X.den s)))).map .v→Dq C s g args H k ⟨resS l,[q.b],[],r.nv,fc⟩:=fun hln l hd=>by
   refine⟨fun b hb=>?_,fun x hx=>by simp[wY] at hx,hfc,fun w0 B0=>?_⟩
   ·simp at hb;subst hb;unfold SH.den;rw[ho];simp
   ·intro H' e w hag hk0 hk1 hrefs R
    have hb:H' q.b=some (.own (SV.dens s o.c) t):=by rw[hag q.b (by simp)];exact SH.den_get ho ht
    have hown:=R.own q.b _ t hb
    rw[b1,Ab] at hown
    have hd1:(wQ c.ks (((xs++ys).map (X.den s)).drop (vD c.a).length))=wQ c.ks (ys.map (X.den s)):=by
     rw[List.map_append,List.drop_append_of_le_length (by simp[a2]),List.drop_of_length_le (by simp[a2])];rfl
    have hcall:=hS hln w (e.blk q.b) R.gl (fun x hx=>R.glo q.b _ t hb x hx) (by rw[hd1,m4];exact hown)
    have hv:AV.vals e (SV.dens s args)=wJ c.a ((xs++ys).map (X.den s)) ++ [Value.slice (some ⟨e.blk q.b,0,none⟩) c.n c.n]:=by
     rw[hargs,Jp,P7,a1,Ab,List.map_append,XX _ _ _ (by simp[a2])]
     simp only[SV.dens,SV.den,AV.vals,AV.val,h0]
     rw[← m2,← m3]
    rw[hv]
    refine hcall.mono ?_
    rintro en w' ⟨rfl,hB⟩
    refine⟨e,?_,R.below hB,Env.on.refl H' e,fun j hj=>?_⟩
    ·rw[XK hd];rfl
    ·rw[XK hd] at hj;simp[AV.refs] at hj
  split at h
  ·rename_i ns hns
   split at h
   ·rename_i hq
    have hq:=wR.1 hq
    rw[XG] at h
    cases h
    have e:=XJ s hns
    refine fin (by rw[e];exact hq) _ ?_
    rw[e]
    exact Ib (XH s _ _) (XI _ _ hq)
   ·cases h
  ·simp only[vo.path] at h
   split at h
   ·rename_i hce
    rw[yw] at h
    cases h
    unfold Ky at hce
    refine fin (by rw[← hce];exact HY _ _ _) _ ?_
    obtain⟨h1,h2⟩:=Gc s (vD c.r) nv
    rw[hce] at h1
    exact Ib h1 h2
   ·cases h
 ·exact hK h
theorem ak9 {C:xA} {s:vS} {ct:Ct} {g:FuncId} (h2:Dp (vD ct.r)≤2)
  (hct:∀ l:List Int,l.length=(vD ct.a).length→(C.Φ g l).length=(vD ct.r).length→Ty C.P C.G g ct l (C.Φ g l))
  {args:List SV} {H:SH} {k nv:Nat} {fc:Facts} {r:CR} (h:(XD C ct g args H k nv fc).path C.Φ s=some r) (hfc:xC s fc):Dq C s g args H k r:=by
 unfold XD at h
 split at h
 ·cases h
 ·rename_i xs hxs
  simp only[vo.path] at h
  split at h
  ·rename_i hce
   rw[yw] at h
   cases h
   obtain⟨v1,v2⟩:=Gc s (vD ct.r) nv
   unfold Ky at hce
   have hln:(C.Φ g (xs.map (X.den s))).length=(vD ct.r).length:=by rw[← hce];exact HY _ _ _
   rw[hce] at v1
   refine⟨ac5 hxs,fun x hx=>?_,hfc,fun w0 B0=>?_⟩
   ·rw[wY] at hx
    obtain⟨y,hy,rfl⟩:=List.mem_map.1 hx
    have:=XU hy
    show y.1=k∨y.1=k+1∨_
    omega
   ·intro H' e w hag hk0 hk1 hrefs R
    obtain⟨fvs,a1,a2,a3⟩:=ac2 (s:=s) R hxs hag
    have hl:(xs.map (X.den s)).length=(vD ct.a).length:=(zn.len a2).1
    have hcc:=hct _ hl hln w fvs R.gl a2
    rw[a1]
    refine hcc.mono ?_
    rintro en w' ⟨fus,rfl,b2,b3,hB⟩
    have R':=R.below hB
    have hlen:=(zn.len b2).1
    obtain⟨e',c1,c2,c3,c4⟩:=XV (s:=s) (h:=k) R' v1 b2 (fun u hu=>⟨fun b hb j c t hj he=>by
     rcases b3 u hu b hb with hlt|⟨v,hv,hvb⟩
     ·have:=R.lt hj;omega
     ·exact(a3 v hv).ap b hvb j c t hj he,fun b hb=>by
     rcases b3 u hu b hb with hlt|⟨v,hv,hvb⟩
     ·exact .inl (Nat.le_trans R.size hlt)
     ·exact(a3 v hv).new b hvb⟩) (fun j h3 h4=>by
     have:j=k∨j=k+1:=by omega
     rcases this with rfl|rfl
     ·exact hk0
     ·exact hk1)
    refine⟨e',?_,c1,c2,fun c hc=>c4 c (adc (by rw[v2]) (ak7 (SV.den_refs s _ hc)))⟩
    rw[ak6,adb _ _ _ _ (by rw[v2]),c3]
  ·cases h
open Go.RowKit
structure zU (C:xA) (E:xK):Prop where
 se:Ti C.P C.SE E
 eq:Hf C.P E
 mix:C.P.follows .mixedOrders=true
 nm:∀ (g:FuncId) (fn:Func),C.P.funcs[g]? = some fn→fn.body.isSome=true→(fn.name == "runtime.NumGoroutine")=false
 ct:∀ (g:FuncId) (ct:Ct),C.ct g=some ct→∀ l:List Int,l.length=(vD ct.a).length→(C.Φ g l).length=(vD ct.r).length→PC C.P C.G g (wJ ct.a l) (xG (wJ ct.r (C.Φ g l)))
 nt:∀ (g:FuncId) (ct:Ct),C.nt g=some ct→Dp (vD ct.r)≤2∧∀ l:List Int,l.length=(vD ct.a).length→(C.Φ g l).length=(vD ct.r).length→Ty C.P C.G g ct l (C.Φ g l)
 sl:∀ (g:FuncId) (c:Ae),c∈C.sl g→∀ l:List Int,l.length=(vD c.a++c.ks).length→(C.Φ c.id l).length=(vD c.r).length→Tz C.P C.G g c l (C.Φ c.id l)
structure Fs (C:xA) (E:xK) (s:vS) (c:Code) (st:St) (ex:Exit) (st':St):Prop where
 aw:∀ w0 B0,AW ⟨C.P,C.G,E,w0,B0,st.T.length⟩ c (AL s ex st') st.N (wE.den s st.T) (SH.den s st.H)
 len:st'.T.length=st.T.length
 dt:∀ j,xZ j st'.dt=false→xZ j st.dt=false∧hget st'.H j=hget st.H j
 fc:xC s st'.fc
abbrev QJ (C:xA) (E:xK) (s:vS) (exf:Code→St→vo (Exit×St)):Prop:=∀ c st ex st',(exf c st).path C.Φ s=some (ex,st')→xC s st.fc→Fs C E s c st ex st'
section
variable {C:xA} {E:xK} {s:vS}
theorem QK {α:Type} {x:Exit} {A B:vo α} {w:String} {r:α} (h:(match x with | .normal=>A | .ret=>B|_=>.stuck w:vo α).path C.Φ s=some r):(x = .normal∧A.path C.Φ s=some r)∨(x = .ret∧B.path C.Φ s=some r):=by
 cases x<;>first|exact .inl ⟨rfl,h⟩|exact .inr ⟨rfl,h⟩|cases h
theorem ala:(fun n:Nat=>n)=zf []:=by funext n;rfl
mutual
theorem SV.ren_nil:∀ x:SV,x.ren (zf [])=x
 | .v _=>rfl
 | .int _ _=>rfl
 | .bool _=>rfl
 | .loc _ _=>rfl
 | .hd _=>rfl
 | .ha _ _=>rfl
 | .sl _ _ _ _=>rfl
 | .fn g a c=>by simp only[SV.ren,SV.rens_nil a,SV.rens_nil c]
 | .tup l=>by simp only[SV.ren,SV.rens_nil l]
 | .agg l=>by simp only[SV.ren,SV.rens_nil l]
theorem SV.rens_nil:∀ l:List SV,SV.rens (zf []) l=l
 | []=>rfl
 | x::l=>by simp only[SV.rens,SV.ren_nil x,SV.rens_nil l]
end
theorem XY (hC:zU C E) {exf:Code→St→vo (Exit×St)} (hex:QJ C E s exf) {g:FuncId} {args:List SV} {H:SH} {k nv:Nat} {fc:Facts} {r:CR} (h:(Qz C.P exf g args H k nv fc).path C.Φ s=some r) (hfc:xC s fc):Dq C s g args H k r:=by
 unfold Qz at h
 split at h
 ·cases h
 ·rename_i fn hf
  split at h
  ·cases h
  ·rename_i cd hb
   split at h
   ·cases h
   ·rename_i objs hro
    split at h
    ·rename_i hl hk hw0
     obtain⟨r0,h0,e1,e2,e3,e4⟩:=akT hfc h
     obtain⟨⟨ex,st⟩,h1,h2⟩:=vo.path_bind_some h0
     have sp:=hex _ _ _ _ h1 hfc
     have hlen:(zF args fn.ntmps).length=fn.ntmps:=KM _ _ (Nat.le_of_ble_eq_true hl)
     have hA:∀ w0 B0,AW ⟨C.P,C.G,E,w0,B0,fn.ntmps⟩ cd (AL s ex st) k (wE.den s (zF args fn.ntmps)) (SH.den s objs):=fun w0 B0=>by
      have:=sp.aw w0 B0;simp only[hlen] at this;exact this
     have hD:DOK objs st.dt st.H:=fun j hj=>(sp.dt j hj).2
     have hn:=hC.nm g fn hf (by rw[hb];rfl)
     have key:ex = .normal∨ex = .ret→(Tt C.P fn objs k st).path C.Φ s=some r0→Dq C s g args H k r0:=by
      intro hx h3
      unfold Tt at h3
      split at h3
      ·cases h3
      ·rename_i rs hrs
       split at h3
       ·cases h3
       ·rename_i R2 hR2
        split at h3
        ·cases h3
        ·cases h3
        ·rename_i nw hnw hw2
         split at h3
         ·cases h3
          have:=acY hf hb hn hro hl hk hA hx hD sp.fc hrs hR2 hw0 hw2 hnw (m:=[]) rfl st.nv
          rw[SV.ren_nil] at this
          simpa [Fq,ala] using this
         ·split at h3
          ·cases h3
          ·rename_i m hm
           cases h3
           exact acY hf hb hn hro hl hk hA hx hD sp.fc hrs hR2 hw0 hw2 hnw hm st.nv
     have main:Dq C s g args H k r0:=by
      rcases QK h2 with⟨hx,h3⟩|⟨hx,h3⟩
      ·exact key (.inl hx) h3
      ·exact key (.inr hx) h3
     refine⟨by rw[← e2];exact main.tc,by rw[← e2,← e3];exact main.ef,e4 main.fc,?_⟩
     rw[← e1,← e2,← e3];exact main.ok
    ·cases h
theorem XZ (hC:zU C E) {exf:Code→St→vo (Exit×St)} (hex:QJ C E s exf) {g:FuncId} {args:List SV} {H:SH} {k nv:Nat} {fc:Facts} {r:CR} (h:(QD C exf g args H k nv fc).path C.Φ s=some r) (hfc:xC s fc):Dq C s g args H k r:=by
 unfold QD at h
 split at h
 ·rename_i ct hnt
  exact ak9 (hC.nt g ct hnt).1 (hC.nt g ct hnt).2 h hfc
 split at h
 ·split at h
  ·exact XY hC hex h hfc
  ·exact ak8 (fun c hc=>hC.sl g c hc) h hfc (fun h=>XY hC hex h hfc)
 ·rename_i ct hct
  split at h
  ·exact XY hC hex h hfc
  ·rename_i xs hxs
   obtain⟨hv,hl⟩:=Jt s hxs
   have hcc:=hC.ct g ct hct (xs.map (X.den s)) (by simpa using hl)
   have fin:(C.Φ g (xs.map (X.den s))).length=(vD ct.r).length→∀ l:List SV,SV.dens s l=(wJ ct.r (C.Φ g (xs.map (X.den s)))).map .v→Dq C s g args H k ⟨resS l,[],[],r.nv,fc⟩:=fun hln l hd=>by
    refine⟨fun b hb=>by simp at hb,fun x hx=>by simp[wY] at hx,hfc,fun w0 B0=>?_⟩
    simp only[XK hd]
    exact(hcc hln).call w0 B0 (by rw[hv];exact Jm _) _ _
   split at h
   ·rename_i ns hns
    split at h
    ·rename_i hq
     have hq:=wR.1 hq
     rw[XG] at h
     cases h
     have e:=XJ s hns
     refine fin (by rw[e];exact hq) _ ?_
     rw[e]
     exact Ib (XH s _ _) (XI _ _ hq)
    ·cases h
   ·simp only[vo.path] at h
    split at h
    ·rename_i hce
     rw[yw] at h
     cases h
     unfold Ky at hce
     refine fin (by rw[← hce];exact HY _ _ _) _ ?_
     obtain⟨h1,h2⟩:=Gc s (vD ct.r) nv
     rw[hce] at h1
     exact Ib h1 h2
    ·cases h
theorem alb {β:Type} {ops:Array Oper} {T:wE} {o:Oper} {fc:Facts} {K:Bool→Facts→vo β} {r:β} (hf:xC s fc) (h:(Xv ops T o fc K).path C.Φ s=some r) :
  ∃ q fc',xC s fc'∧F5 ops (wE.den s T) o=some q∧(K q fc').path C.Φ s=some r:=by
 unfold Xv at h
 unfold F5
 split at h
 ·rename_i hg
  exact⟨true,fc,hf,by rw[hg],h⟩
 ·rename_i j want hg
  rw[hg]
  simp only
  split at h
  ·rename_i hd
   exact⟨false,fc,hf,by rw[hd],h⟩
  ·rename_i d hd
   rw[hd]
   simp only
   split at h
   ·rename_i x hx
    have hT:wE.den s T d=some (.v (.bool (x.den s != 0))):=by simp[wE.den,hx,SV.den]
    obtain⟨fc',hf',h'⟩:=HZ hf h
    refine⟨_,fc',hf',?_,h'⟩
    rw[hT]
    simp only[Dk]
    cases (x.den s != 0)<;>cases want<;>rfl
   ·rename_i vs hx
    have hT:wE.den s T d=some (.v (.tuple vs)):=by simp[wE.den,hx,SV.den]
    exact⟨false,fc,hf,by rw[hT],h⟩
   ·cases h
theorem alc {fv:SV} {g:FuncId} {a c:List SV} (h:Xw fv=some (g,a,c)):Mq (fv.den s)=some (g,SV.dens s a,SV.dens s c):=by
 have hC':∀ l:List Value,SV.dens s (l.map H5)=l.map .v:=fun l=>by
  rw[SV.dens_map,List.map_map];exact List.map_congr_left fun x _=>SS s x
 unfold Xw at h
 split at h
 ·cases h
  simp only[SV.den,Mq,hC']
 ·cases h
  simp only[SV.den]
  unfold Bo
  have hm:∀ {l:List AV} {vs:List Value},yf l=some vs→l=vs.map .v:=fun {l} {vs} hv=>by
   have h4:=Qo l
   unfold Ap at h4;rw[hv] at h4
   simpa [xV,Value.cells] using h4.symm
  cases ha:yf (SV.dens s a) with
  | none=>rfl
  | some x=>cases hc:yf (SV.dens s c) with
   | none=>rfl
   | some y=>simp only[Mq,hm ha,hm hc]
 ·cases h
theorem ald {op:Op} {ρ:Operand→Option SV} {ρ':Operand→Option AV} (hρ:RD s ρ ρ') {g:FuncId} {args:List SV} (h:Xx op ρ=some (some (g,args))) {P:Program} {G:wD} {H:vE} {k:Nat} :
  Mr op ρ'=some (g,SV.dens s args)∧EZ op ρ'=none∧wI P G E op ρ' H k=none:=by
 unfold Xx at h
 split at h
 ·rename_i f xs ts
  split at h
  ·rename_i fv hfv
   split at h
   ·rename_i g' a c bs hcl hl
    simp only[Option.some.injEq,Prod.mk.injEq] at h
    obtain⟨rfl,rfl⟩:=h
    refine⟨?_,rfl,rfl⟩
    simp only[Mr,hρ _ _ hfv,alc hcl,Tf hρ hl,Jp]
   ·cases h
  ·cases h
 ·cases h
theorem ale {op:Op} {ρ:Operand→Option SV} {ρ':Operand→Option AV} (hρ:RD s ρ ρ') {q:X} {x y:Option SV} (h:Xy op ρ=some (q,x,y)):∃ x' y',EZ op ρ'=some (q.den s != 0,x',y')∧(∀ a,x=some a→x'=some (a.den s))∧(∀ a,y=some a→y'=some (a.den s)):=by
 unfold Xy at h
 split at h
 ·rename_i c a b
  split at h
  ·rename_i q' hq
   cases h
   refine⟨ρ' a,ρ' b,?_,fun z hz=>hρ _ _ hz,fun z hz=>hρ _ _ hz⟩
   simp only[EZ,hρ _ _ hq,SV.den]
  ·cases h
 ·cases h
theorem alf {P:Program} {G:wD} {op:Op} {ρ:Operand→Option AV} {c:Bool} {x y:Option AV} {H:vE} {k:Nat} {r:AV} {tc:List Nat} {ef:List (Nat×AO)} (h:EZ op ρ=some (c,x,y)) (hn:wI P G E op ρ H k=some (r,tc,ef)) :
  tc = []∧ef = []∧(c=true→x=some r)∧(c=false→y=some r):=by
 unfold EZ at h
 split at h
 ·rename_i q a b
  split at h
  ·rename_i q' hq
   cases h
   simp only[wI,hq] at hn
   cases c with
   | true =>
    simp only[if_true] at hn
    obtain⟨h1,rfl,rfl⟩:=Ca hn
    exact⟨rfl,rfl,fun _=>h1,fun h=>by cases h⟩
   | false =>
    simp only[Bool.false_eq_true,if_false] at hn
    obtain⟨h1,rfl,rfl⟩:=Ca hn
    exact⟨rfl,rfl,(fun h=>by cases h),fun _=>h1⟩
  ·cases h
 ·cases h
def Ih (tr:Tr):Tr:=tr.filter fun x => !x.2.1.isEmpty
theorem adg (tc:List Nat):∀ ef:List (Nat×SO),Tp tc ef=Cy tc (wY s ef)
 | []=>rfl
 | x::ef=>by
  have hc:xZ x.1 tc=tc.contains x.1:=by rw[Bool.eq_iff_iff,QG,List.contains_iff_mem]
  simp only[Tp,Cy,wY,List.map_cons,List.any_cons,hc]
  cases tc.contains x.1 with
  | true=>rfl
  | false=>simp only[Bool.false_or];exact adg tc ef
theorem alg {i:Nat} {tc:List Nat} {ef:List (Nat×SO)} {tr:Tr} : Ih ((i,tc,Cy tc (wY s ef))::tr)=Ia i tc ef (Ih tr):=by
 unfold Ia Ih
 cases tc with
 | nil=>rfl
 | cons b tc=>rw[List.filter_cons_of_pos (by rfl),← adg (s:=s)]
theorem QL {M:List Nat} {Nb:Nat} : ∀ {tr:Tr},Jh M Nb (Ih tr)=true→Jh M Nb tr=true
 | [],_=>rfl
 | x::l,h=>by
  unfold Ih at h
  have empty:∀ y z:Nat×List Nat×Bool,z.2.1 = []∨y.2.1 = []→Jg M y z=true:=fun y z hz=>by
   unfold Jg
   rcases hz with hz|hz<;>simp[hz]
  cases hx:x.2.1 with
  | nil =>
   rw[List.filter_cons_of_neg (by simp[hx])] at h
   simp only[Jh,Bool.and_eq_true]
   refine⟨⟨by rw[hx];rfl,?_⟩,QL h⟩
   rw[List.all_eq_true];intro y _;exact empty x y (.inr hx)
  | cons b tc =>
   rw[List.filter_cons_of_pos (by simp[hx])] at h
   simp only[Jh,Bool.and_eq_true] at h ⊢
   refine⟨⟨h.1.1,?_⟩,QL h.2⟩
   rw[List.all_eq_true];intro y hy
   cases hy2:y.2.1 with
   | nil=>exact empty x y (.inl hy2)
   | cons b' tc'=>exact List.all_eq_true.1 h.1.2 y (List.mem_filter.2 ⟨hy,by simp[hy2]⟩)
theorem adh {β:Type} {T:wE} {d:Option Tmp} {x:SV} {K:wE→vo β} {r:β} (hd:∀ t,d=some t→t<T.length) (h:(H9 T d x K).path C.Φ s=some r) :
  ∃ T',T'.length=T.length∧wE.den s T'=(wE.den s T).put d (x.den s)∧(K T').path C.Φ s=some r:=by
 unfold H9 at h
 cases d with
 | none=>exact⟨T,rfl,rfl,h⟩
 | some d =>
  simp only at h
  rw[acv] at h
  exact⟨_,acx T d x,wE.den_set s T d x (hd d rfl),h⟩
theorem adi {j:Nat} : ∀ {ef:List (Nat×SO)} {dt:List Nat},xZ j (Ga ef dt)=false→xZ j dt=false∧∀ x∈ef,x.1≠j
 | [],dt,h=>⟨h,fun x hx=>by simp at hx⟩
 | x::ef,dt,h=>by
  rw[Ga] at h
  obtain⟨h1,h2⟩:=adi h
  unfold addN at h1
  split at h1
  ·rename_i hm
   refine⟨h1,fun y hy=>?_⟩
   rcases List.mem_cons.1 hy with rfl|hy
   ·rintro rfl;rw[hm] at h1;cases h1
   ·exact h2 y hy
  ·simp only[xZ] at h1
   split at h1
   ·cases h1
   ·rename_i hb
    refine⟨h1,fun y hy=>?_⟩
    rcases List.mem_cons.1 hy with rfl|hy
    ·rintro rfl;simp at hb
    ·exact h2 y hy
theorem adj {j:Nat} : ∀ {ef:List (Nat×SO)} {H:SH},(∀ x∈ef,x.1≠j)→hget (Kz H ef) j=hget H j
 | [],H,_=>rfl
 | x::ef,H,h=>by
  rw[Kz,adj (fun y hy=>h y (List.mem_cons_of_mem _ hy)),WT,if_neg (fun e=>h x List.mem_cons_self e.symm)]
theorem adk (q:Bool) (v:Value) (b:Bool):(Qv q v b).den s = .v (EX q v b):=by
 cases q with
 | true =>
  have:SV.dens s [H5 v,.bool (.lit (vw b))] = [v,Value.bool b].map .v:=by
   simp only[SV.dens,SS,SV.den,X.den,yN,List.map_cons,List.map_nil]
  simp only[Qv,SV.den,this,SQ,EX,if_true]
 | false=>simp only[Qv,SS,EX,Bool.false_eq_true,if_false]
theorem adl {β:Type} {kd:IntKind} {n:X} {q:Bool} {z:Value} {K:SV→Facts→vo β} {r:β} : ∀ {es:List (Value×Value)} {fc:Facts},Qu kd es=true→xC s fc→(Tj kd n q z K es fc).path C.Φ s=some r →
  ∃ a fc',xC s fc'∧(K a fc').path C.Φ s=some r∧((∃ v,Hm kd (n.den s) es=some (some v)∧a.den s = .v (EX q v true))∨(Hm kd (n.den s) es=some none∧a.den s = .v (EX q z false)))
 | [],fc,hk,hf,h=>⟨_,fc,hf,h,.inr ⟨rfl,adk q z false⟩⟩
 | x::l,fc,hk,hf,h=>by
  simp only[Qu] at hk
  simp only[Tj] at h
  cases hx:x.1 with
  | int k' m =>
   rw[hx] at hk h
   simp only at hk h
   cases hkk:zT kd k' with
   | false=>rw[hkk] at hk;cases hk
   | true =>
    rw[hkk] at hk
    simp only at hk
    have hke:=Be hkk
    obtain⟨fc',hf',h⟩:=HZ hf h
    rw[Jk] at h
    simp only[vX,yN,X.den] at h
    unfold Hm
    rw[hx]
    simp only[hke,if_true]
    cases hb:(n.den s==m) with
    | true =>
     rw[hb] at h
     have:n.den s=m:=by simpa using hb
     simp only[this,if_true]
     exact⟨_,fc',hf',h,.inl ⟨x.2,rfl,adk q x.2 true⟩⟩
    | false =>
     rw[hb] at h
     have:¬ n.den s=m:=by simpa using hb
     simp only[this,if_false]
     rw[← hke]
     exact adl hk hf' h
  | _=>rw[hx] at hk;cases hk
theorem alh {op:Op} {ρ:Operand→Option SV} {ρ':Operand→Option AV} (hρ:RD s ρ ρ') {H:SH} {L:acH} (h:Xz C.P op ρ H=some L) {G:wD} {k:Nat} :
  Qu L.kd L.es=true∧EZ op ρ'=none∧Mr op ρ'=none∧(∀ v,Hm L.kd (L.n.den s) L.es=some (some v)→wI C.P G E op ρ' (SH.den s H) k=some (.v (EX L.q v true),[L.k],[])) ∧
   (Hm L.kd (L.n.den s) L.es=some none→wI C.P G E op ρ' (SH.den s H) k=some (.v (EX L.q L.z false),[L.k],[])):=by
 unfold Xz at h
 split at h
 ·rename_i t x i q
  split at h
  ·rename_i j kd n hx hi
   split at h
   ·rename_i o ho
    split at h
    ·rename_i es ht hm
     split at h
     ·rename_i kt et hu
      split at h
      ·rename_i kd' z hkt hz
       split at h
       ·rename_i hk1 hk2
        cases h
        have e1:=Be hk1
        have a1:=hρ _ _ hx
        have a2:=hρ _ _ hi
        simp only[SV.den] at a1 a2
        have a3:=SH.den_map (s:=s) ho ht hm
        refine⟨hk2,rfl,rfl,fun v hv=>?_,fun hv=>?_⟩
        ·simp only at hv
         simp only[wI,a1,a2,F4,a3,hu,hkt,e1,if_true,hv];rfl
        ·simp only at hv
         simp only[wI,a1,a2,F4,a3,hu,hkt,e1,if_true,hv,hz];rfl
       ·cases h
      ·cases h
     ·cases h
    ·cases h
   ·cases h
  ·cases h
 ·cases h
theorem adm (k:VK) (x:X):Qw k x=Fp k x:=by cases k<;>rfl
theorem adn:∀ (ks:List VK) (xs:List X),Tm ks xs=EE ks xs
 | [],_=>rfl
 | _::_,[]=>rfl
 | k::ks,x::xs=>by rw[Tm,EE,adm,adn ks xs]
theorem ado:∀ (ks:List VK) (b:Nat),Tn b ks=wm b ks
 | [],_=>rfl
 | k::ks,b=>by rw[Tn,wm,ado ks]
theorem X3:∀ (ks:List VK) (ns:List Int),ns.length=ks.length→(wQ ks ns).length=ks.length
 | [],_,_=>by simp[wQ]
 | k::ks,[],h=>by simp at h
 | k::ks,n::ns,h=>by rw[wQ,List.length_cons,List.length_cons,X3 ks ns (by simpa using h)]
theorem X4 (b:Nat) (ks:List VK):∀ n,(Bq s b ks n).length=n*ks.length
 | 0=>by simp[Bq]
 | n+1=>by rw[Bq,List.length_append,X4 b ks n,X3 _ _ (HY _ _ _),Nat.add_mul,Nat.one_mul]
theorem X5 (b:Nat) (ks:List VK):∀ {n j:Nat},j<n→((Bq s b ks n).drop (j*ks.length)).take ks.length=wQ ks (Ad s (b+j*ks.length) ks.length)
 | n+1,j,h=>by
  rw[Bq]
  have hl:=X4 (s:=s) b ks n
  by_cases hj:j=n
  ·subst hj
   rw[List.drop_append_of_le_length (by rw[hl];exact Nat.le_refl _),List.drop_of_length_le (by rw[hl];exact Nat.le_refl _),List.nil_append,List.take_of_length_le (by rw[X3 _ _ (HY _ _ _)];exact Nat.le_refl _)]
  ·have hjn:j<n:=by omega
   have hm:(j+1)*ks.length≤n*ks.length:=Nat.mul_le_mul_right _ hjn
   rw[Nat.add_mul,Nat.one_mul] at hm
   rw[List.drop_append_of_le_length (by rw[hl];omega),List.take_append_of_le_length (by rw[List.length_drop,hl];omega)]
   exact X5 b ks hjn
theorem X6 {H:SH} {k:Nat} {r:Qn} (h:Tk H k=some r):SH.den s H k=some (.rd (r.n.den s).toNat (Bq s r.b r.ks (r.n.den s).toNat)):=by
 unfold Tk at h
 split at h
 ·rename_i o ho
  split at h
  ·rename_i r' h1 h2 h3
   cases h
   exact SH.den_ora ho h1 h2 h3
  ·cases h
 ·cases h
theorem X7 {j:Nat} {n:X} (h:((yP .lss .i64 (.lit (.ofNat j)) n).den s != 0)=true):j<(n.den s).toNat:=by
 rw[Jk] at h
 simp only[vX,yN,X.den] at h
 have:=of_decide_eq_true h
 have h2:(j:Int)<n.den s:=this
 omega
theorem ali {op:Op} {ρ:Operand→Option SV} {ρ':Operand→Option AV} (hρ:RD s ρ ρ') {H:SH} {L:acI} (h:XA C.P op ρ H=some L) {G:wD} {k:Nat} (hc:(L.c.den s != 0)=true) :
  EZ op ρ'=none∧wI C.P G E op ρ' (SH.den s H) k=some (L.r.den s,[L.k],[]):=by
 unfold XA at h
 split at h
 ·rename_i t x i
  split at h
  ·rename_i j kk kd m hx hi
   split at h
   ·rename_i r el hr hel
    split at h
    ·rename_i sz hsz
     split at h
     ·rename_i hb
      rw[yw] at h
      cases h
      have a1:=hρ _ _ hx
      have a2:=hρ _ _ hi
      have hlt:=X7 hc
      refine⟨rfl,?_⟩
      simp only[SV.den,X.den] at a1 a2
      simp only[wI,a1,a2,DR,X6 hr,hel,hsz]
      rw[if_pos ⟨by exact Int.natCast_nonneg _,by show(m:Int)<_;omega⟩]
      rfl
     ·cases h
    ·cases h
   ·cases h
  ·cases h
 ·rename_i t x
  split at h
  ·rename_i kk off hx
   split at h
   ·rename_i r hr
    rw[yw] at h
    have a1:=hρ _ _ hx
    simp only[SV.den] at a1
    split at h
    ·rename_i hb ha
     have hb:=wR.1 hb
     split at h
     ·rename_i sz hsz
      split at h
      ·rename_i hz h1
       have hz:=wR.1 hz
       have h1:=Nat.le_of_ble_eq_true h1
       rw[yw] at h
       cases h
       have hlt:=X7 hc
       refine⟨rfl,?_⟩
       have hg:=X5 (s:=s) r.b r.ks hlt
       have hl:=X4 (s:=s) r.b r.ks (r.n.den s).toNat
       have hm:(off/r.ks.length+1)*r.ks.length≤(r.n.den s).toNat*r.ks.length:=Nat.mul_le_mul_right _ hlt
       rw[Nat.add_mul,Nat.one_mul,hb] at hm
       rw[hb] at hg
       simp only[wI,a1,BF,X6 hr,zQ,ha,hsz]
       rw[if_pos ⟨by rw[List.length_map,hl,hz];exact hm,by omega⟩]
       simp only[SV.den,adn,ado]
       obtain⟨v1,v2⟩:=Gc s r.ks (r.b+off)
       rw[Tx v1 v2,← List.map_drop,← List.map_take,hz,hg]
      ·cases h
     ·cases h
    ·rename_i hb ha
     have hb:=wR.1 hb
     split at h
     ·rename_i vk hks
      rw[yw] at h
      cases h
      have hlt:=X7 hc
      refine⟨rfl,?_⟩
      have hg:=X5 (s:=s) r.b r.ks hlt
      rw[hb,hks] at hg
      simp only[wI,a1,BF,X6 hr,zQ,ha]
      have hx1:(Bq s r.b r.ks (r.n.den s).toNat)[off]? = some (xW vk (s (r.b+off))):=by
       have e1:((Bq s r.b [vk] (r.n.den s).toNat).drop off).take 1 = [xW vk (s (r.b+off))]:=hg
       rw[hks]
       have e2:(((Bq s r.b [vk] (r.n.den s).toNat).drop off).take 1)[0]? = some (xW vk (s (r.b+off))):=by rw[e1];rfl
       rwa [List.getElem?_take_of_lt (by decide),List.getElem?_drop] at e2
      rw[List.getElem?_map,hx1,adm]
      rw[Tw (s:=s) (k:=vk) (x:=.var vk (r.b+off)) (n:=s (r.b+off)) rfl]
      rfl
     ·cases h
    ·cases h
   ·cases h
  ·cases h
 ·cases h
theorem QM (hC:zU C E) {cf:CF} {nt:Nat} (hcf:∀ g args H k nv fc r,(cf g args H k nv fc).path C.Φ s=some r→xC s fc→Dq C s g args H k r) {ops:Array Oper} {Nb:Nat} :
  ∀ (os:List Oper) (i:Nat) (T:wE) (H:SH) (tr:Qt) (nv:Nat) (dt:List Nat) (fc:Facts) (out:OR),(DY C cf ops Nb i os T H tr nv dt fc).path C.Φ s=some out→xC s fc→T.length=nt→(∀ o∈os,∀ t,o.dst=some t→t<nt) →
   (∀ w0 B0 (trf:Tr) (K:wF→vE→Tr→Prop),Ih trf=tr→(∀ trf',Ih trf'=out.tr→K (wE.den s out.T) (SH.den s out.H) trf')→zk C.P C.G E w0 B0 ops Nb i os (wE.den s T) (SH.den s H) trf K) ∧
   out.T.length=nt∧xC s out.fc∧∀ j,xZ j out.dt=false→xZ j dt=false∧hget out.H j=hget H j
 | [],i,T,H,tr,nv,dt,fc,out,h,hfc,hT,hd=>by
  simp only[DY] at h
  cases h
  exact⟨fun w0 B0 trf K ht hK=>by rw[zk];exact hK trf ht,hT,hfc,fun j hj=>⟨hj,rfl⟩⟩
 | o::os,i,T,H,tr,nv,dt,fc,out,h,hfc,hT,hd=>by
  simp only[DY] at h
  obtain⟨q,fc1,hf1,hw,h⟩:=alb hfc h
  have hdo:∀ t,o.dst=some t→t<T.length:=by rw[hT];exact hd o List.mem_cons_self
  have hds:∀ o'∈os,∀ t,o'.dst=some t→t<nt:=fun o' ho'=>hd o' (List.mem_cons_of_mem _ ho')
  cases q with
  | false =>
   simp only at h
   obtain⟨T',hl,hden,h⟩:=adh hdo h
   obtain⟨h1,h2,h3,h4⟩:=QM hC hcf os (i+1) T' H tr nv dt fc1 out h hf1 (hl.trans hT) hds
   refine⟨fun w0 B0 trf K ht hK=>?_,h2,h3,h4⟩
   have:=h1 w0 B0 trf K ht hK
   rw[hden] at this
   simp only[zk,hw,Kr];exact this
  | true =>
   simp only at h
   have step:∀ (r:SV) (tc:List Nat) (ef:List (Nat×SO)) (nv':Nat) (fc':Facts),xC s fc'→(H9 T o.dst r fun T=>F8 H ef fun H=>DY C cf ops Nb (Nat.succ i) os T H (Ia i tc ef tr) nv' (Ga ef dt) fc').path C.Φ s=some out →
     (∀ w0 B0 (trf:Tr) (K:wF→vE→Tr→Prop),Ih trf=tr→(∀ trf',Ih trf'=out.tr→K (wE.den s out.T) (SH.den s out.H) trf')→zk C.P C.G E w0 B0 ops Nb (i+1) os ((wE.den s T).put o.dst (r.den s)) ((SH.den s H).puts (wY s ef)) ((i,tc,Cy tc (wY s ef))::trf) K) ∧
     out.T.length=nt∧xC s out.fc∧∀ j,xZ j out.dt=false→xZ j dt=false∧hget out.H j=hget H j:=by
    intro r tc ef nv' fc' hf' h
    obtain⟨T',hl,hden,h⟩:=adh hdo h
    rw[acz] at h
    obtain⟨h1,h2,h3,h4⟩:=QM hC hcf os (i+1) T' _ _ nv' _ fc' out h hf' (hl.trans hT) hds
    refine⟨fun w0 B0 trf K ht hK=>?_,h2,h3,fun j hj=>?_⟩
    ·have:=h1 w0 B0 ((i,tc,Cy tc (wY s ef))::trf) K (by rw[alg,ht]) hK
     rw[hden,acA] at this
     exact this
    ·obtain⟨h5,h6⟩:=h4 j hj
     obtain⟨h7,h8⟩:=adi h5
     exact⟨h7,by rw[h6,adj h8]⟩
   split at h
   ·cases h
   ·rename_i g args hcs
    rw[yw] at h
    obtain⟨r,hr,h⟩:=vo.path_bind_some h
    have sp:=hcf _ _ _ _ _ _ _ hr hf1
    obtain⟨h1,h2⟩:=step r.r r.tc r.ef r.nv r.fc sp.fc h
    refine⟨fun w0 B0 trf K ht hK=>?_,h2⟩
    obtain⟨e1,e2,e3⟩:=ald (E:=E) (Jo s T) hcs (P:=C.P) (G:=C.G) (H:=SH.den s H) (k:=Nb+2*i)
    simp only[zk,hw,EY,e2,e3,e1]
    exact⟨_,_,_,sp.ok w0 B0,sp.tc,sp.ef,h1 w0 B0 trf K ht hK⟩
   ·split at h
    ·rename_i q x y hp
     obtain⟨fc2,hf2,h⟩:=HZ hf1 h
     obtain⟨x',y',e1,e2,e3⟩:=ale (s:=s) (Jo s T) hp
     cases hq:(q.den s != 0) with
     | true =>
      rw[hq] at h e1
      simp only at h
      cases x with
      | none=>cases h
      | some r =>
       obtain⟨h1,h2⟩:=step r [] [] nv fc2 hf2 (by simpa [F8,Ia,Ga] using h)
       refine⟨fun w0 B0 trf K ht hK=>?_,h2⟩
       simp only[zk,hw,EY,e1,e2 r rfl]
       exact h1 w0 B0 trf K ht hK
     | false =>
      rw[hq] at h e1
      simp only at h
      cases y with
      | none=>cases h
      | some r =>
       obtain⟨h1,h2⟩:=step r [] [] nv fc2 hf2 (by simpa [F8,Ia,Ga] using h)
       refine⟨fun w0 B0 trf K ht hK=>?_,h2⟩
       simp only[zk,hw,EY,Kr,e1,e3 r rfl]
       exact h1 w0 B0 trf K ht hK
    ·split at h
     ·rename_i L hL
      obtain⟨k1,k2,k3,k4,k5⟩:=alh (E:=E) (s:=s) (Jo s T) hL (G:=C.G) (k:=Nb+2*i)
      obtain⟨a,fc2,hf2,h,hv⟩:=adl k1 hf1 h
      obtain⟨h1,h2⟩:=step a [L.k] [] nv fc2 hf2 (by simpa [F8,Ga] using h)
      refine⟨fun w0 B0 trf K ht hK=>?_,h2⟩
      have h3:=h1 w0 B0 trf K ht hK
      have hn:wI C.P C.G E o.op (zz (wE.den s T)) (SH.den s H) (Nb+2*i)=some (a.den s,[L.k],[]):=by
       rcases hv with⟨v,v1,v2⟩|⟨v1,v2⟩
       ·rw[v2];exact k4 v v1
       ·rw[v2];exact k5 v1
      simp only[zk,hw,EY,k2,hn]
      exact h3
     split at h
     ·rename_i L hL
      obtain⟨fc2,hf2,h⟩:=HZ hf1 h
      cases hq:(L.c.den s != 0) with
      | false=>rw[hq] at h;cases h
      | true =>
       rw[hq] at h
       simp only at h
       obtain⟨k2,hn⟩:=ali (E:=E) (s:=s) (Jo s T) hL (G:=C.G) (k:=Nb+2*i) hq
       obtain⟨h1,h2⟩:=step L.r [L.k] [] nv fc2 hf2 (by simpa [F8,Ga] using h)
       refine⟨fun w0 B0 trf K ht hK=>?_,h2⟩
       have h3:=h1 w0 B0 trf K ht hK
       simp only[zk,hw,EY,k2,hn]
       exact h3
     ·rw[yw] at h
      obtain⟨r,hr,h⟩:=vo.path_bind_some h
      have hn:=akO hC.se hf1 (Jo s T) hr
      obtain⟨h1,h2⟩:=step r.1 r.2.1 r.2.2 nv fc1 hf1 h
      refine⟨fun w0 B0 trf K ht hK=>?_,h2⟩
      have h3:=h1 w0 B0 trf K ht hK
      simp only[zk,hw,EY]
      cases hp:EZ o.op (zz (wE.den s T)) with
      | none=>simp only[hn];exact h3
      | some z =>
       obtain⟨c,x,y⟩:=z
       obtain⟨e1,e2,e3,e4⟩:=alf hp hn
       rw[e1,e2] at h3
       cases c with
       | true=>simp only[EY,e3 rfl];exact h3
       | false=>simp only[Kr,e4 rfl];exact h3
theorem DZ {r:Exit×St} {t:vo (Exit×St)} {f:Exit×St→vo (Exit×St)} (h:(t.bind f).path C.Φ s=some r):∃ ex st,t.path C.Φ s=some (ex,st)∧(f (ex,st)).path C.Φ s=some r:=by
 obtain⟨⟨ex,st⟩,h1,h2⟩:=vo.path_bind_some h;exact⟨ex,st,h1,h2⟩
theorem KP {x:Exit} {r y:Exit×St} {A:vo (Exit×St)} (h:(match x with | .normal=>A|_=>.leaf y:vo (Exit×St)).path C.Φ s=some r):(x = .normal∧A.path C.Φ s=some r)∨(x ≠ .normal∧r=y):=by
 cases x<;>first|exact .inl ⟨rfl,h⟩|(cases h;exact .inr ⟨fun e=>(by cases e),rfl⟩)
theorem KQ {K:Nat→wF→vE→Prop} {Q:Cz} {x:Exit} {N:Nat} {T:wF} {H:vE} (hx:x ≠ .normal) (h:Q x N T H):Mw K Q x N T H:=by
 cases x<;>first|exact absurd rfl hx|exact h
theorem Fs.trans {c c' c2:Code} {st st1 st2:St} {ex1 ex2:Exit} (h1:Fs C E s c st ex1 st1) (h2:Fs C E s c' st1 ex2 st2) (aw:∀ w0 B0,AW ⟨C.P,C.G,E,w0,B0,st.T.length⟩ c2 (AL s ex2 st2) st.N (wE.den s st.T) (SH.den s st.H)):Fs C E s c2 st ex2 st2 :=
 ⟨aw,h2.len.trans h1.len,fun j hj=>by obtain⟨a,b⟩:=h2.dt j hj;obtain⟨a',b'⟩:=h1.dt j a;exact⟨a',b.trans b'⟩,h2.fc⟩
def Ii (id:Nat):Exit→Exit
 | .exit id'=>if id'=id then .normal else .exit id'
 | x=>x
theorem Na (hC:zU C E):∀ n:Nat,QJ C E s (exec C n) ∧
  ∀ c st ex st',(exec C n (.loop c) st).path C.Φ s=some (ex,st')→xC s st.fc→∀ w0 B0,BI ⟨C.P,C.G,E,w0,B0,st.T.length⟩ c (AL s ex st') n st.N (wE.den s st.T) (SH.den s st.H)
 | 0=>⟨fun c st ex st' h=>(by cases h),fun c st ex st' h=>(by cases h)⟩
 | n+1=>by
  obtain⟨ih,ihl⟩:=Na hC n
  have loop:∀ c st ex st',(exec C (n+1) (.loop c) st).path C.Φ s=some (ex,st')→xC s st.fc→Fs C E s (.loop c) st ex st'∧∀ w0 B0,BI ⟨C.P,C.G,E,w0,B0,st.T.length⟩ c (AL s ex st') (n+1) st.N (wE.den s st.T) (SH.den s st.H):=by
   intro c st ex st' h hf
   simp only[exec] at h
   obtain⟨ex1,st1,h1,h2⟩:=DZ h
   have s1:=ih _ _ _ _ h1 hf
   rcases KP h2 with⟨rfl,h3⟩|⟨hx,h3⟩
   ·have s2:=ih _ _ _ _ h3 s1.fc
    have hr:∀ w0 B0,BI ⟨C.P,C.G,E,w0,B0,st.T.length⟩ c (AL s ex st') (n+1) st.N (wE.den s st.T) (SH.den s st.H):=fun w0 B0=>by
     rw[MC]
     refine(s1.aw w0 B0).mono ?_
     rintro x N T H ⟨rfl,rfl,rfl,rfl⟩
     have:=ihl _ _ _ _ h3 s1.fc w0 B0
     rw[s1.len] at this
     exact this
    exact⟨s1.trans s2 fun w0 B0=>MB _ (hr w0 B0),hr⟩
   ·obtain⟨rfl,rfl⟩:ex1=ex∧st1=st':=by cases h3;exact⟨rfl,rfl⟩
    have hr:∀ w0 B0,BI ⟨C.P,C.G,E,w0,B0,st.T.length⟩ c (AL s ex1 st1) (n+1) st.N (wE.den s st.T) (SH.den s st.H):=fun w0 B0=>by
     rw[MC]
     refine(s1.aw w0 B0).mono ?_
     rintro x N T H ⟨rfl,rfl,rfl,rfl⟩
     exact KQ hx ⟨rfl,rfl,rfl,rfl⟩
    exact⟨⟨fun w0 B0=>MB _ (hr w0 B0),s1.len,s1.dt,s1.fc⟩,hr⟩
  refine⟨?_,fun c st ex st' h hf=>(loop c st ex st' h hf).2⟩
  intro c st ex st' h hf
  cases c with
  | skip=>simp only[exec] at h;cases h;exact⟨fun w0 B0=>V8 ⟨rfl,rfl,rfl,rfl⟩,rfl,fun j hj=>⟨hj,rfl⟩,hf⟩
  | label l=>simp only[exec] at h;cases h;exact⟨fun w0 B0=>V9 ⟨rfl,rfl,rfl,rfl⟩,rfl,fun j hj=>⟨hj,rfl⟩,hf⟩
  | exit id=>simp only[exec] at h;cases h;exact⟨fun w0 B0=>Wd ⟨rfl,rfl,rfl,rfl⟩,rfl,fun j hj=>⟨hj,rfl⟩,hf⟩
  | ret=>simp only[exec] at h;cases h;exact⟨fun w0 B0=>We ⟨rfl,rfl,rfl,rfl⟩,rfl,fun j hj=>⟨hj,rfl⟩,hf⟩
  | seq a b =>
   simp only[exec] at h
   obtain⟨ex1,st1,h1,h2⟩:=DZ h
   have s1:=ih _ _ _ _ h1 hf
   rcases KP h2 with⟨rfl,h3⟩|⟨hx,h3⟩
   ·have s2:=ih _ _ _ _ h3 s1.fc
    refine s1.trans s2 fun w0 B0=>Mx ((s1.aw w0 B0).mono ?_)
    rintro x N T H ⟨rfl,rfl,rfl,rfl⟩
    have:=s2.aw w0 B0
    rw[s1.len] at this
    exact this
   ·cases h3
    refine⟨fun w0 B0=>Mx ((s1.aw w0 B0).mono ?_),s1.len,s1.dt,s1.fc⟩
    rintro x N T H ⟨rfl,rfl,rfl,rfl⟩
    exact KQ hx ⟨rfl,rfl,rfl,rfl⟩
  | cond c a b =>
   simp only[exec] at h
   split at h
   ·rename_i q hq
    have hd:=Jo s st.T _ _ hq
    obtain⟨fc',hf',h⟩:=HZ hf h
    simp only[SV.den] at hd
    cases hb:(q.den s != 0) with
    | true =>
     rw[hb] at h hd
     have s1:=ih _ _ _ _ h hf'
     exact⟨fun w0 B0=>Wh hd (s1.aw w0 B0),s1.len,s1.dt,s1.fc⟩
    | false =>
     rw[hb] at h hd
     have s1:=ih _ _ _ _ h hf'
     exact⟨fun w0 B0=>Wi hd (s1.aw w0 B0),s1.len,s1.dt,s1.fc⟩
   ·cases h
  | block id c =>
   simp only[exec] at h
   obtain⟨ex1,st1,h1,h2⟩:=DZ h
   have s1:=ih _ _ _ _ h1 hf
   have key:ex=Ii id ex1∧st'=st1:=by
    cases ex1 with
    | exit id' =>
     simp only at h2
     simp only[Ii]
     split at h2
     ·rename_i hb;cases h2;rw[if_pos (wR.1 hb)];exact⟨rfl,rfl⟩
     ·rename_i hb;cases h2
      rw[if_neg (fun e=>by rw[e] at hb;simp at hb)];exact⟨rfl,rfl⟩
    | _=>cases h2;exact⟨rfl,rfl⟩
   obtain⟨rfl,rfl⟩:=key
   refine⟨fun w0 B0=>Wj ((s1.aw w0 B0).mono ?_),s1.len,s1.dt,s1.fc⟩
   rintro x N T H ⟨rfl,rfl,rfl,rfl⟩
   cases x with
   | exit id' =>
    simp only[P8,Ii]
    split
    ·exact⟨rfl,rfl,rfl,rfl⟩
    ·exact⟨rfl,rfl,rfl,rfl⟩
   | _=>exact⟨rfl,rfl,rfl,rfl⟩
  | loop c=>exact(loop c st ex st' h hf).1
  | scope c =>
   simp only[exec] at h
   obtain⟨ex1,st1,h1,h2⟩:=DZ h
   have s1:=ih _ _ _ _ h1 hf
   have key:(∀ l,ex1 ≠ .goto l)∧ex=ex1∧st'=st1:=by
    cases ex1<;>first|(cases h2;exact⟨fun l e=>(by cases e),rfl,rfl⟩)|cases h2
   obtain⟨hg,rfl,rfl⟩:=key
   exact⟨fun w0 B0=>Wm (s1.aw w0 B0) (fun l N T H e=>hg l e.1.symm),s1.len,s1.dt,s1.fc⟩
  | region id ops draw =>
   simp only[exec] at h
   obtain⟨out,h1,h2⟩:=vo.path_bind_some h
   have dst:∀ o∈ops.toList,∀ t,o.dst=some t→t<st.T.length:=by
    unfold regionEnd at h2
    split at h2
    ·split at h2
     ·rename_i hdr _
      simp only[drawOK,Bool.and_eq_true] at hdr
      exact Hq hdr.1.2
     ·cases h2
     ·cases h2
    ·split at h2
     ·rename_i hdr;exact Hq hdr
     ·cases h2
   obtain⟨e1,e2,e3,e4⟩:=QM hC (nt:=st.T.length) (fun g args H k nv fc r hr hf=>XZ hC ih hr hf) ops.toList 0 st.T st.H [] st.nv st.dt st.fc out h1 hf rfl dst
   unfold regionEnd at h2
   cases draw with
   | true =>
    simp only at h2
    split at h2
    ·rename_i hdr htr
     rw[yw] at h2
     cases h2
     refine⟨fun w0 B0=>Wo hC.eq hC.mix hdr (e1 w0 B0 [] _ rfl ?_),e2,e4,e3⟩
     intro trf htf
     refine⟨?_,rfl,rfl,rfl,rfl⟩
     rw[← htf] at htr
     exact QL htr
    ·cases h2
    ·cases h2
   | false =>
    simp only at h2
    split at h2
    ·rename_i hdr
     rw[yw] at h2
     cases h2
     exact⟨fun w0 B0=>Wn hC.eq hdr (e1 w0 B0 [] _ rfl fun trf htf=>⟨rfl,rfl,rfl,rfl⟩),e2,e4,e3⟩
    ·cases h2
  | rangeFunc f ps a b=>simp only[exec] at h;cases h
  | goto l=>simp only[exec] at h;cases h
  | refuse w=>simp only[exec] at h;cases h
end
open Go.RowKit
def vT:List Int→Nat→Int
 | [],_=>0
 | x::_,0=>x
 | _::l,n+1=>vT l n
theorem adp:∀ (l m:List Int) (i:Nat),i<l.length→vT (l++m) i=vT l i
 | x::l,m,0,_=>rfl
 | x::l,m,i+1,h=>adp l m i (by simpa using h)
 | [],m,i,h=>by simp at h
theorem X8:∀ (l m q:List Int),Ad (vT (l++m++q)) l.length m.length=m
 | l,[],q=>rfl
 | l,x::m,q=>by
  rw[List.length_cons,Ad]
  have h1:vT (l++x::m++q) l.length=x:=by
   induction l with
   | nil=>rfl
   | cons y l ih=>exact ih
  have h2:=X8 (l ++ [x]) m q
  rw[h1]
  simp only[List.append_assoc,List.singleton_append,List.length_append,List.length_cons,List.length_nil,List.cons_append,List.nil_append,Nat.zero_add] at h2 ⊢
  rw[h2]
def X.ev (l:List Int):X→Int
 | .lit n=>n
 | .var k i=>MZ k (vT l i)
 | .bin op k a b=>fold op k (a.ev l) (b.ev l)
 | .conv k a=>yX k (a.ev l)
 | .com k a=>fold .xor k (match k.signed with|true => -1|false=>.ofNat (Ar k-1)) (a.ev l)
 | .not a=>vw (Dj (vG (a.ev l)))
 | .and a b=>match vG (a.ev l) with|true=>vw (vG (b.ev l))|false=>0
 | .beq a b=>vw (match vG (a.ev l) with|true=>vG (b.ev l)|false=>Dj (vG (b.ev l)))
 | .min a b=>match zS (b.ev l) (a.ev l) with|true=>b.ev l|false=>a.ev l
 | .max a b=>match zS (a.ev l) (b.ev l) with|true=>b.ev l|false=>a.ev l
 | .ite c a b=>match vG (c.ev l) with|true=>a.ev l|false=>b.ev l
 | .dlen a=>Int.ofNat (Fe (a.ev l).toNat)
theorem alj (k:IntKind) (n:Int):fold .xor k (match k.signed with|true => -1|false=>.ofNat (Ar k-1)) n=Qi k n:=by
 have:=acm (fun _=>0) k (.lit n)
 unfold SG at this
 simp only[Hy,X.den] at this
 exact this
theorem X.ev_den (l:List Int):∀ x:X,x.ev l=x.den (vT l)
 | .lit n=>rfl
 | .var k i=>acO k _
 | .bin op k a b=>by simp only[X.ev,X.den,HV,X.ev_den l a,X.ev_den l b]
 | .conv k a=>by simp only[X.ev,X.den,xR,X.ev_den l a]
 | .com k a=>by simp only[X.ev,X.den,alj,X.ev_den l a]
 | .not a=>by simp only[X.ev,X.den,Dk,zm,X.ev_den l a]
 | .and a b=>by
  simp only[X.ev,X.den,zm,X.ev_den l a,X.ev_den l b]
  cases (a.den (vT l) != 0)<;>rfl
 | .beq a b=>by
  simp only[X.ev,X.den,zm,Dk,X.ev_den l a,X.ev_den l b]
  cases (a.den (vT l) != 0)<;>cases (b.den (vT l) != 0)<;>rfl
 | .min a b=>by
  simp only[X.ev,X.den,Cc,X.ev_den l a,X.ev_den l b]
  by_cases h:b.den (vT l)<a.den (vT l)
  ·rw[decide_eq_true h,if_pos h]
  ·rw[decide_eq_false h,if_neg h]
 | .max a b=>by
  simp only[X.ev,X.den,Cc,X.ev_den l a,X.ev_den l b]
  by_cases h:a.den (vT l)<b.den (vT l)
  ·rw[decide_eq_true h,if_pos h]
  ·rw[decide_eq_false h,if_neg h]
 | .ite c a b=>by
  simp only[X.ev,X.den,zm,X.ev_den l a,X.ev_den l b,X.ev_den l c]
  by_cases h:c.den (vT l)=0
  ·rw[if_pos h,h];rfl
  ·rw[if_neg h,show(c.den (vT l) != 0)=true by simpa using h]
 | .dlen a=>by simp only[X.ev,X.den,X.ev_den l a]
def evs {β:Sort _} (l:List Int):List X→(List Int→β)→β
 | [],K=>K []
 | x::xs,K=>Ev (x.ev l) fun n=>evs l xs fun r=>K (n::r)
theorem Fu {β:Sort _} (l:List Int):∀ (xs:List X) (K:List Int→β),evs l xs K=K (xs.map (X.den (vT l)))
 | [],K=>rfl
 | x::xs,K=>by rw[evs,Hy,Fu l xs,X.ev_den];rfl
def zg (Φ:yY):vo SV→List Int→Option (SV×List Int)
 | .leaf a,l=>some (a,l)
 | .ite c a b,l=>match vG (c.ev l) with|true=>zg Φ a l|false=>zg Φ b l
 | .call f args _ n t,l=>evs l args fun xs=>match Nat.beq (Φ f xs).length n with|true=>zg Φ t (l++Φ f xs)|false=>none
 | .stuck _,_=>none
def Ag (n:Nat):X→Bool
 | .lit _=>true
 | .var _ i=>Nat.blt i n
 | .bin _ _ a b=>xD (Ag n a) (Ag n b)
 | .conv _ a=>Ag n a
 | .com _ a=>Ag n a
 | .not a=>Ag n a
 | .and a b=>xD (Ag n a) (Ag n b)
 | .beq a b=>xD (Ag n a) (Ag n b)
 | .min a b=>xD (Ag n a) (Ag n b)
 | .max a b=>xD (Ag n a) (Ag n b)
 | .ite c a b=>xD (Ag n c) (xD (Ag n a) (Ag n b))
 | .dlen a=>Ag n a
def TF (n:Nat):List X→Bool
 | []=>true
 | x::l=>xD (Ag n x) (TF n l)
def Gf (n:Nat):vo SV→Bool
 | .leaf _=>true
 | .ite c a b=>xD (Ag n c) (xD (Gf n a) (Gf n b))
 | .call _ args base m t=>xD (Nat.beq base n) (xD (TF n args) (Gf (n+m) t))
 | .stuck _=>true
theorem AP {l m:List Int} : ∀ {x:X},Ag l.length x=true→x.den (vT (l++m))=x.den (vT l)
 | .lit n,_=>rfl
 | .var k i,h=>by simp only[X.den];rw[adp _ _ _ (by simpa [Ag,Nat.blt_eq] using h)]
 | .bin _ _ a b,h=>by have h:=xk h;simp only[X.den,AP h.1,AP h.2]
 | .conv _ a,h=>by simp only[X.den,AP (x:=a) h]
 | .com _ a,h=>by simp only[X.den,AP (x:=a) h]
 | .not a,h=>by simp only[X.den,AP (x:=a) h]
 | .and a b,h=>by have h:=xk h;simp only[X.den,AP h.1,AP h.2]
 | .beq a b,h=>by have h:=xk h;simp only[X.den,AP h.1,AP h.2]
 | .min a b,h=>by have h:=xk h;simp only[X.den,AP h.1,AP h.2]
 | .max a b,h=>by have h:=xk h;simp only[X.den,AP h.1,AP h.2]
 | .ite c a b,h=>by have h:=xk h;have h2:=xk h.2;simp only[X.den,AP h.1,AP h2.1,AP h2.2]
 | .dlen a,h=>by simp only[X.den,AP (x:=a) h]
theorem adq {l m:List Int} : ∀ {xs:List X},TF l.length xs=true→xs.map (X.den (vT (l++m)))=xs.map (X.den (vT l))
 | [],_=>rfl
 | x::xs,h=>by have h:=xk h;rw[List.map_cons,List.map_cons,AP h.1,adq h.2]
theorem KR {Φ:yY} : ∀ {t:vo SV} {l:List Int} {a:SV} {l':List Int},zg Φ t l=some (a,l')→Gf l.length t=true→t.path Φ (vT l')=some a∧∃ m,l'=l++m
 | .leaf a,l,b,l',h,_=>by simp only[zg,Option.some.injEq,Prod.mk.injEq] at h;obtain⟨rfl,rfl⟩:=h;exact⟨rfl,[],by simp⟩
 | .ite c a b,l,v,l',h,hs=>by
  have hs:=xk hs;have hs2:=xk hs.2
  simp only[zg,zm,X.ev_den] at h
  split at h
  ·rename_i hc
   obtain⟨h1,m,rfl⟩:=KR h hs2.1
   refine⟨?_,m,rfl⟩
   rw[vo.path,AP hs.1,if_neg (by simpa using hc)];exact h1
  ·rename_i hc
   obtain⟨h1,m,rfl⟩:=KR h hs2.2
   refine⟨?_,m,rfl⟩
   rw[vo.path,AP hs.1,if_pos (by simpa using hc)];exact h1
 | .call f args base n t,l,v,l',h,hs=>by
  have hs:=xk hs;have hs2:=xk hs.2
  have hb:=wR.1 hs.1;subst hb
  simp only[zg,Fu] at h
  split at h
  ·rename_i hn
   have hn:=wR.1 hn;subst hn
   obtain⟨h1,m,rfl⟩:=KR h (by rw[List.length_append];exact hs2.2)
   refine⟨?_,_,List.append_assoc _ _ _⟩
   rw[vo.path,if_pos]
   ·exact h1
   ·unfold Ky
    have e:=adq (m:=Φ f (args.map (X.den (vT l)))++m) hs2.1
    rw[List.append_assoc,e,← List.append_assoc]
    exact X8 l _ m
  ·cases h
 | .stuck w,l,v,l',h,_=>by cases h
def Gg (r:List Sh) (a:SV):List SV:=match r with
 | [_]=>[a]
 | _=>match a with | .tup m=>m|a=>[a]
def vU (Φ:yY) (ct:Ct) (t:vo SV) (l:List Int):List Int:=match zg Φ t l with
 | some (a,l')=>match DX ct.r (Gg ct.r a) with
  | some xs=>evs l' xs id
  | none=>[]
 | none=>[]
def okF (Φ:yY) (ct:Ct) (t:vo SV) (l:List Int):Prop:=∃ a l' xs,zg Φ t l=some (a,l')∧DX ct.r (Gg ct.r a)=some xs
theorem X9 {Φ:yY} {ct:Ct} {t:vo SV} {l:List Int} (h:okF Φ ct t l):(vU Φ ct t l).length=(vD ct.r).length:=by
 obtain⟨a,l',xs,h1,h2⟩:=h
 unfold vU
 simp only[h1,h2,Fu,id,List.length_map,(Jt (fun _=>0) h2).2]
theorem TG (l m:List Int):Ad (vT (l++m)) 0 l.length=l:=by
 have:=X8 [] l m;simpa using this
theorem alk {C:xA} {E:xK} {s:vS} (hC:zU C E) {n:Nat} {g:FuncId} {args:List SV} {nv:Nat} {a:SV} {vs:List Value} {v:Value} (h:(wM C n g args nv).path C.Φ s=some a) (ha:SV.dens s args=vs.map .v) (hv:a.den s = .v v) :
  PC C.P C.G g vs v:=by
 unfold wM at h
 split at h
 ·cases h
 ·rename_i fn hf
  split at h
  ·cases h
  ·rename_i cd hb
   split at h
   ·rename_i hl
    obtain⟨⟨ex,st⟩,h1,h2⟩:=vo.path_bind_some h
    have sp:=(Na (E:=E) (s:=s) hC n).1 _ _ _ _ h1 (fun x hx=>by cases hx)
    have hlen:(zF args fn.ntmps).length=fn.ntmps:=KM _ _ (Nat.le_of_ble_eq_true hl)
    have hvl:vs.length=args.length:=by have:=congrArg List.length ha;rw[DU,List.length_map] at this;exact this.symm
    refine Wt E hf hb (hC.nm g fn hf (by rw[hb];rfl)) (by rw[hvl];exact hl) fun w=>?_
    have hA:=sp.aw w wX.nil
    simp only[hlen,QH,ha] at hA
    have key:∀ rs,Af C.P st.T st.H fn.results.toList=some rs→resS rs=a→∃ rs',CB C.P C.G (wE.den s st.T) (SH.den s st.H) fn.results.toList=some rs'∧Fa rs' = .v v:=fun rs hrs e =>
     ⟨_,KN s hrs,by rw[M8,e,hv]⟩
    have hx:(ex = .normal∨ex = .ret)∧∃ rs,Af C.P st.T st.H fn.results.toList=some rs∧resS rs=a:=by
     rcases QK h2 with⟨rfl,h3⟩|⟨rfl,h3⟩
     ·split at h3
      ·rename_i rs hrs;cases h3;exact⟨.inl rfl,rs,hrs,rfl⟩
      ·cases h3
     ·split at h3
      ·rename_i rs hrs;cases h3;exact⟨.inr rfl,rs,hrs,rfl⟩
      ·cases h3
    obtain⟨hx,rs,hrs,e⟩:=hx
    refine AW.mono (show AW _ cd (AL s ex st) 0 _ _ from hA) ?_
    rintro x N T H ⟨rfl,rfl,rfl,rfl⟩
    rcases hx with rfl|rfl
    ·exact key rs hrs e
    ·exact key rs hrs e
   ·cases h
theorem TH {s:vS} {r:List Sh} {a:SV} {vs:List Value} (h:SV.dens s (Gg r a)=vs.map .v) (hl:vs.length=r.length):a.den s = .v (xG vs):=by
 unfold Gg at h
 split at h
 ·match vs,hl with
  | [v],_=>simpa [SV.dens,xG] using h
 ·rename_i hr
  have tup:∀ m,SV.dens s m=vs.map .v→(SV.tup m).den s = .v (xG vs):=fun m hm=>by
   simp only[SV.den,hm,SQ]
   match vs,hl with
   | [],_=>rfl
   | [v],hl=>exfalso;match r,hl with | [x],_=>exact hr x rfl
   | _::_::_,_=>rfl
  split at h
  ·exact tup _ h
  ·rename_i hnt
   exfalso
   have h1:=congrArg List.length h
   rw[DU,List.length_map,hl] at h1
   match r,h1 with
   | [x],_=>exact hr x rfl
theorem Nc:∀ (hs:List Sh) (ns:List Int),(wJ hs ns).length=hs.length
 | [],_=>rfl
 | h::hs,ns=>by rw[wJ,List.length_cons,Nc hs,List.length_cons]
theorem adr {C:xA} {E:xK} (hC:zU C E) {n:Nat} {g:FuncId} {ct:Ct} {t:vo SV} (h:wM C n g (ww ct.a (wm 0 (vD ct.a))) (vD ct.a).length=t) (hs:Gf (vD ct.a).length t=true)
  (l:List Int) (hl:l.length=(vD ct.a).length) (ho:okF C.Φ ct t l) :
  (vU C.Φ ct t l).length=(vD ct.r).length∧PC C.P C.G g (wJ ct.a l) (xG (wJ ct.r (vU C.Φ ct t l))):=by
 refine⟨X9 ho,?_⟩
 obtain⟨a,l',xs,h1,h2⟩:=ho
 obtain⟨h3,m,rfl⟩:=KR h1 (by rw[hl];exact hs)
 rw[← h] at h3
 obtain⟨h4,h5⟩:=Gc (vT (l++m)) (vD ct.a) 0
 rw[← hl,TG] at h4
 have hf:=Jt (vT (l++m)) h2
 refine alk hC h3 (Ib h4 h5) ?_
 have:vU C.Φ ct t l=xs.map (X.den (vT (l++m))):=by unfold vU;simp only[h1,h2,Fu,id]
 rw[this]
 exact TH hf.1 (Nc _ _)
def D9 (cf:FuncId→Option Ct) (ct:Ct) (n:Nat):vo SV→Bool
 | .leaf a=>(DX ct.r (Gg ct.r a)).isSome
 | .ite c a b=>xD (Ag n c) (xD (D9 cf ct n a) (D9 cf ct n b))
 | .call f args base m t=>match cf f with
  | some c=>xD (Nat.beq base n) (xD (TF n args) (xD (Nat.beq args.length (vD c.a).length) (xD (Nat.beq m (vD c.r).length) (D9 cf ct (n+m) t))))
  | none=>false
 | .stuck _=>false
theorem KS {cf:FuncId→Option Ct} {ct:Ct} : ∀ {t:vo SV} {n:Nat},D9 cf ct n t=true→Gf n t=true
 | .leaf a,n,_=>rfl
 | .ite c a b,n,h=>by
  have h:=xk h;have h2:=xk h.2
  simp only[Gf,h.1,KS h2.1,KS h2.2];rfl
 | .call f args base m t,n,h=>by
  simp only[D9] at h
  split at h
  ·have h:=xk h;have h2:=xk h.2;have h3:=xk h2.2;have h4:=xk h3.2
   simp only[Gf,h.1,h2.1,KS h4.2];rfl
  ·cases h
 | .stuck _,n,h=>by cases h
structure Aw (C:xA) (E:xK):Prop where
 ok:zU C E
 ct:∀ (g:FuncId) (ct:Ct),C.ct g=some ct→∀ l:List Int,l.length=(vD ct.a).length→(C.Φ g l).length=(vD ct.r).length
 nt:∀ (g:FuncId) (ct:Ct),C.nt g=some ct→∀ l:List Int,l.length=(vD ct.a).length→(C.Φ g l).length=(vD ct.r).length
 sl:∀ (g:FuncId) (c:Ae),c∈C.sl g→∀ l:List Int,l.length=(vD c.a++c.ks).length→(C.Φ c.id l).length=(vD c.r).length
theorem TI {C:xA} {E:xK} (hC:Aw C E) {ct:Ct} : ∀ {t:vo SV} {l:List Int},D9 C.ct ct l.length t=true→okF C.Φ ct t l
 | .leaf a,l,h=>by
  obtain⟨xs,hx⟩:=Option.isSome_iff_exists.1 (show(DX ct.r (Gg ct.r a)).isSome=true from h)
  exact⟨a,l,xs,rfl,hx⟩
 | .ite c a b,l,h=>by
  have h:=xk h;have h2:=xk h.2
  unfold okF
  simp only[zg]
  cases vG (c.ev l) with
  | true=>exact TI hC h2.1
  | false=>exact TI hC h2.2
 | .call f args base m t,l,h=>by
  simp only[D9] at h
  split at h
  ·rename_i c hc
   have h:=xk h;have h2:=xk h.2;have h3:=xk h2.2;have h4:=xk h3.2
   have e1:=wR.1 h3.1;have e2:=wR.1 h4.1
   unfold okF
   simp only[zg,Fu]
   have hl:=(hC.ct f c hc (args.map (X.den (vT l))) (by rw[List.length_map];exact e1))
   rw[hl,e2]
   simp only[Nat.beq_refl]
   refine TI hC ?_
   rw[List.length_append,hl,← e2];exact h4.2
  ·cases h
 | .stuck _,l,h=>by cases h
structure wO where
 g:FuncId
 ct:Ct
 F:List Int→List Int
def Ah:List wO→FuncId→Option wO
 | [],_=>none
 | x::l,g=>match Nat.beq x.g g with|true=>some x|false=>Ah l g
def Nf (C : xA) (L : List wO) : xA :=
  { C with ct := fun g => match Ah L g with | some e => some e.ct | none => C.ct g
           Φ := fun g l => match Ah L g with | some e => e.F l | none => C.Φ g l
           nt := fun _ => none
           sl := fun _ => [] }
def wh (P:Program) (G:wD) (e:wO):Prop:=∀ l:List Int,l.length=(vD e.ct.a).length→(e.F l).length=(vD e.ct.r).length∧PC P G e.g (wJ e.ct.a l) (xG (wJ e.ct.r (e.F l)))
theorem Ng {L:List wO} {g:FuncId} {e:wO} (h:Ah L g=some e):e∈L∧e.g=g:=by
 induction L with
 | nil=>cases h
 | cons x l ih =>
  simp only[Ah] at h
  split at h
  ·rename_i hb;cases h;exact⟨List.mem_cons_self,wR.1 hb⟩
  ·obtain⟨h1,h2⟩:=ih h;exact⟨List.mem_cons_of_mem _ h1,h2⟩
theorem Aw.add {C:xA} {E:xK} (hC:Aw C E) {L:List wO} (h:∀ e∈L,wh C.P C.G e):Aw (Nf C L) E:=by
 have key:∀ (g:FuncId) (ct:Ct),(Nf C L).ct g=some ct→∀ l:List Int,l.length=(vD ct.a).length→((Nf C L).Φ g l).length=(vD ct.r).length∧(((Nf C L).Φ g l).length=(vD ct.r).length→PC C.P C.G g (wJ ct.a l) (xG (wJ ct.r ((Nf C L).Φ g l)))):=by
  intro g ct hct l hl
  simp only[Nf] at hct ⊢
  cases hf:Ah L g with
  | some e =>
   rw[hf] at hct
   simp only[Option.some.injEq] at hct;subst hct
   obtain⟨h1,h2⟩:=Ng hf
   subst h2
   exact⟨(h e h1 l hl).1,fun _=>(h e h1 l hl).2⟩
  | none =>
   rw[hf] at hct
   exact⟨hC.ct g ct hct l hl,hC.ok.ct g ct hct l hl⟩
 exact⟨⟨hC.ok.se,hC.ok.eq,hC.ok.mix,hC.ok.nm,fun g ct hct l hl=>(key g ct hct l hl).2,fun g ct hn=>(by cases hn),fun g c hc=>(by cases hc)⟩,fun g ct hct l hl=>(key g ct hct l hl).1,fun g ct hn=>(by cases hn),fun g c hc=>(by cases hc)⟩
theorem xw {C:xA} {E:xK} (hC:Aw C E) (n:Nat) {g:FuncId} {ct:Ct} {t:vo SV} (h:wM C n g (ww ct.a (wm 0 (vD ct.a))) (vD ct.a).length=t) (hs:D9 C.ct ct (vD ct.a).length t=true) :
  wh C.P C.G ⟨g,ct,vU C.Φ ct t⟩:=fun l hl=>adr hC.ok h (KS hs) l hl (TI hC (by rw[hl];exact hs))
structure AQ (P:Program) (G:wD) (e:wO):Prop where
 ok:∀ l:List Int,l.length=(vD e.ct.a).length→(e.F l).length=(vD e.ct.r).length→PC P G e.g (wJ e.ct.a l) (xG (wJ e.ct.r (e.F l)))
theorem wh.c {P:Program} {G:wD} {e:wO} (h:wh P G e):AQ P G e:=⟨fun l hl _=>(h l hl).2⟩
theorem alm {Φ:yY} {ct:Ct} {t:vo SV} {l:List Int} (hp:Nat.blt 0 (vD ct.r).length=true) (h:(vU Φ ct t l).length=(vD ct.r).length):okF Φ ct t l:=by
 have hp:0<(vD ct.r).length:=by simpa [Nat.blt_eq] using hp
 unfold vU at h
 cases he:zg Φ t l with
 | none=>rw[he] at h;simp only[List.length_nil] at h;omega
 | some q =>
  obtain⟨a,l'⟩:=q
  rw[he] at h
  simp only at h
  cases hf:DX ct.r (Gg ct.r a) with
  | none=>rw[hf] at h;simp only[List.length_nil] at h;omega
  | some xs=>exact⟨a,l',xs,he,hf⟩
end Go.Proofs.YtemomocmfggiaaaGreatDoor
